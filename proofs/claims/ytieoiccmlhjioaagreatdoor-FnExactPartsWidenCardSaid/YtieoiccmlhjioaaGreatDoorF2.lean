/- Contracts of the program's functions at this seat, printed by a program of ours and checked by Lean: each under the conditions of its own statement. -/
import Derived.Test.YtieoiccmlhjioaaGreatDoorF1
set_option linter.all false
set_option linter.unnecessarySimpa false
set_option linter.unusedSectionVars false
set_option linter.unusedSimpArgs false
set_option linter.unusedVariables false
namespace Go.Proofs
open Go Go.Proofs Go.Ev

def i161 : TI := ⟨.fn, 1, 8, [.nilFunc]⟩
theorem t161 : TyOk Tryz.prog 161 i161 := ⟨⟨_, _, _, Tryz.underlying161⟩, by kernel_rfl⟩
theorem z161 : ZOk Tryz.prog 161 i161 := ⟨t161, rfl⟩
def i181 : TI := ⟨.fn, 1, 8, [.nilFunc]⟩
theorem t181 : TyOk Tryz.prog 181 i181 := ⟨⟨_, _, _, Tryz.underlying181⟩, by kernel_rfl⟩
theorem z181 : ZOk Tryz.prog 181 i181 := ⟨t181, rfl⟩
theorem c_IvOk (a : Iv) : Trip Tryz.prog 150 [(true, 2)] (Iv.c a) [(false, 1)] [.v (.bool (Iv.ok a))] [] := by
 refine Trip.of Tryz.func150 (by decide) (c := _) rfl rfl (Nat.le_of_ble_eq_true rfl) rfl (AftOk.nil _) <| .seq <| .rs fun k1 => .g (fun _ τ => ⟨_, .box (.no rfl) rfl rfl rfl rfl rfl τ⟩) <| .as rfl <| .z <| .seq <| .rs fun k2 => .fp t119 t2 rfl ?_
 refine .ld t2 rfl (.ptr _ _ _ _ _ rfl) rfl <| .fp t119 t2 rfl <| .ld t2 rfl (.ptr _ _ _ _ _ rfl) rfl <| .bi rfl <| .as rfl <| .z <| .ret ?_
 exact fin0 (.inr rfl) (.one (svB (show (decide (a.lo ≤ a.hi)) = (Iv.ok a) by rfl)) .nil) (.dd .nil) rfl
theorem c_IndexFuncA (l : List Arr) (F_p : FuncId) (first_p : List (Bool × List D)) (caps_p : List D) (p : Arr → Bool) (h_p : ∀ (x0 : Arr), FnTrip Tryz.prog F_p first_p caps_p [(true, 2)] (Arr.c x0) [(false, 1)] [.v (.bool (p x0))]) : Trip Tryz.prog 204 [(false, 1), (false, 1)] ([.sl false 112 2 (List.map Arr.c (l))] ++ [.fn F_p first_p caps_p]) [(false, 1)] [.v (.int .i64 (idx p l))] [] := by
 refine Trip.of Tryz.func204 (by decide) (c := _) rfl rfl (Nat.le_of_ble_eq_true rfl) rfl (AftOk.nil _) <| .sl (t := 0) rfl fun hs1l => .seq <| .rs fun k2 => .as rfl <| .z <| .seq <| .seq <| .rs fun k3 => ?_
 refine .mv rfl <| .g (fun _ τ => ⟨_, .len (.no rfl) rfl (z := (l.length : Int)) t31 rfl rfl rfl (.d _ _) (map_len _ _) rfl τ⟩) <| .mv rfl <| .z <| .block ?_
 refine .loop (X := Nat) (fun ζ => .of [(0, .one (.d (.sl false 112 2 (List.map Arr.c (l))))), (1, .one (.d (.fn F_p first_p caps_p))), (7, .one (.d (.v (.int .i64 ((l.length : Int)))))), (8, .one (.d (.v (.int .i64 ((ζ : Int))))))] []) (fun ζ => ζ ≤ l.length ∧ allTo ζ (fun i => !p (l.getD i default)) = true) (fun ζ => l.length - ζ) ?_ ?_
 ·skip
  exact .here 0 (.of (.cons rfl (.cons rfl (.cons rfl (.cons (svI (show (0) = ((0 : Int)) by first | rfl | omega | exact wrap_le (by omega) (by omega) | (rw [wrap_le (by omega) (by omega)]; omega))) .nil)))) .nil) (show 0 ≤ l.length ∧ allTo 0 (fun i => !p (l.getD i default)) = true by exact ⟨by omega, rfl⟩)
 ·rintro j hI
  have hI : j ≤ l.length ∧ allTo j (fun i => !p (l.getD i default)) = true := hI
  refine .seq <| .rs fun k4 => .bi rfl <| .z <| .seq ?_
  refine .cond (t := decide ((j : Int) < (l.length : Int))) rfl (fun c0 => ?_) (fun c0 => ?_)
  ·have c0 := of_decide_eq_true c0
   refine .skip <| .seq <| .block <| .seq <| .rs fun k5 => .mv rfl <| .as rfl <| .z <| .seq ?_
   refine .rs fun k6 => .mv rfl <| .mv rfl <| .mv rfl <| .g (fun _ τ => ⟨_, .indexAddr (.no rfl) rfl (j) t31 rfl t112 rfl rfl rfl (.d _ _) rfl rfl rfl (map_get (by omega)) rfl rfl τ⟩) <| .lda t112 rfl (.d _) rfl <| .g (fun _ τ => ⟨_, .callF (.no rfl) rfl (ds := [.v (.string ((l.getD j default).name)), .v (.int .i64 ((l.getD j default).size))]) (h_p (l.getD j default)) rfl rfl rfl rfl (.own [16, 0] .nil) rfl rfl rfl rfl rfl rfl τ⟩) <| .z ?_
   refine .cond (t := p (l.getD j default)) rfl (fun c1 => ?_) (fun c1 => ?_)
   ·have c1 := c1
    refine .seq <| .rs fun k7 => .mv rfl <| .as rfl <| .z <| .ret ?_
    exact fin0 (.inr rfl) (.one (svI (show ((j : Int)) = (idx p l) by exact (idx_found (j := j) (by omega) hI.2 (by simpa using c1)).symm)) .nil) (.dd .nil) rfl
   ·have c1 := c1
    refine .skip <| .rs fun k9 => .bi rfl <| .mv rfl <| .z ?_
    exact .here (j + 1) (.of (.cons rfl (.cons rfl (.cons rfl (.cons (svI (show (IntKind.wrap .i64 ((j : Int) + 1)) = (((j + 1) : Int)) by first | rfl | omega | exact wrap_le (by omega) (by omega) | (rw [wrap_le (by omega) (by omega)]; omega))) .nil)))) .nil) ⟨(show (j + 1) ≤ l.length ∧ allTo (j + 1) (fun i => !p (l.getD i default)) = true by exact ⟨by omega, allTo_step hI.2 (by simpa using c1)⟩), (show l.length - (j + 1) < l.length - j by omega)⟩
  ·have c0 := of_decide_eq_false c0
   refine .exit <| .seq <| .rs fun k10 => .as rfl <| .z <| .ret ?_
   exact fin0 (.inr rfl) (.one (svI (show (-1) = (idx p l) by exact (idx_none (by omega) hI.2).symm)) .nil) (.dd .nil) rfl
theorem c_ContainsFuncA (l : List Arr) (F_p : FuncId) (first_p : List (Bool × List D)) (caps_p : List D) (p : Arr → Bool) (h_p : ∀ (x0 : Arr), FnTrip Tryz.prog F_p first_p caps_p [(true, 2)] (Arr.c x0) [(false, 1)] [.v (.bool (p x0))]) : Trip Tryz.prog 174 [(false, 1), (false, 1)] ([.sl false 112 2 (List.map Arr.c (l))] ++ [.fn F_p first_p caps_p]) [(false, 1)] [.v (.bool (l.any p))] [] := by
 refine Trip.of Tryz.func174 (by decide) (c := _) rfl rfl (Nat.le_of_ble_eq_true rfl) rfl (AftOk.nil _) <| .sl (t := 0) rfl fun hs1l => .seq <| .rs fun k2 => .as rfl <| .z <| .seq <| .rs fun k3 => .mv rfl ?_
 refine .mv rfl <| .c0 (c_IndexFuncA l F_p first_p caps_p p h_p) rfl (.dd (.dd .nil)) (.own [7, 0] .nil) rfl <| .bi rfl <| .as rfl <| .z <| .ret ?_
 exact fin0 (.inr rfl) (.one (svB (show (decide ((idx p l) ≥ 0)) = (l.any p) by exact idx_any _ _)) .nil) (.dd .nil) rfl
theorem c_areAll1A (x : Arr) (F_p : FuncId) (first_p : List (Bool × List D)) (caps_p : List D) (p : Arr → Bool) (h_p : ∀ (x0 : Arr), FnTrip Tryz.prog F_p first_p caps_p [(true, 2)] (Arr.c x0) [(false, 1)] [.v (.bool (p x0))]) : Trip Tryz.prog 175 [(true, 2), (false, 1)] (Arr.c x ++ [.pt false [.fn F_p first_p caps_p]]) [(false, 1)] [.v (.bool (!p x))] [] := by
 refine Trip.of Tryz.func175 (by decide) (c := _) rfl rfl (Nat.le_of_ble_eq_true rfl) rfl (AftOk.nil _) <| .seq <| .rs fun k1 => .g (fun _ τ => ⟨_, .box (.no rfl) rfl rfl rfl rfl rfl τ⟩) <| .as rfl <| .z <| .seq <| .rs fun k2 => .ld t161 rfl (.d _) rfl ?_
 refine .lda t112 rfl (.ptr _ _ _ _ _ rfl) rfl <| .g (fun _ τ => ⟨_, .callF (.no rfl) rfl (ds := [.v (.string (x.name)), .v (.int .i64 (x.size))]) (h_p x) rfl rfl rfl rfl (.own [6, 0] .nil) rfl rfl rfl rfl rfl rfl τ⟩) <| .un rfl <| .as rfl <| .z <| .ret ?_
 exact fin0 (.inr rfl) (.one (svB (show (!(p x)) = (!p x) by rfl)) .nil) (.dd .nil) rfl
theorem c_areAllA (l : List Arr) (F_p : FuncId) (first_p : List (Bool × List D)) (caps_p : List D) (p : Arr → Bool) (h_p : ∀ (x0 : Arr), FnTrip Tryz.prog F_p first_p caps_p [(true, 2)] (Arr.c x0) [(false, 1)] [.v (.bool (p x0))]) : Trip Tryz.prog 132 [(false, 1), (false, 1)] ([.sl false 112 2 (List.map Arr.c (l))] ++ [.fn F_p first_p caps_p]) [(false, 1)] [.v (.bool (l.all p))] [] := by
 refine Trip.of Tryz.func132 (by decide) (c := _) rfl rfl (Nat.le_of_ble_eq_true rfl) rfl (AftOk.nil _) <| .sl (t := 0) rfl fun hs1l => .seq <| .rs fun k2 => .g (fun _ τ => ⟨_, .box (.no rfl) rfl rfl rfl rfl rfl τ⟩) <| .as rfl <| .z <| .seq <| .rs fun k3 => ?_
 refine .mv rfl <| .g (fun _ τ => ⟨_, .makeFunc (.no rfl) rfl rfl rfl rfl rfl τ⟩) <| .g (fun _ τ => ⟨_, .call (.no rfl) rfl [[3]] [([3], (k2, k2, .box [.d (.fn F_p first_p caps_p)]))] (c_ContainsFuncA l 175 [] [.pt false [.fn F_p first_p caps_p]] (fun x0 => !p x0) (fun x0 => c_areAll1A x0 F_p first_p caps_p p h_p)) rfl rfl rfl rfl rfl (.dd (.cons (Reads.clo0 (.cons (Reads.ptr0 (.head _) (.head _) (.cons (Reads.d _) .nil)) .nil)).gives .nil)) rfl rfl (fun _ => (ownCons (Owned.v _) ownNil)) (.own [7, 0] .nil) (.nil) rfl rfl rfl (AllH.get (.r rfl)) rfl rfl rfl τ⟩) <| .un rfl <| .as rfl <| .z <| .ret ?_
 exact fin0 (.inr rfl) (.one (svB (show (!(l.any (fun x0 => !p x0))) = (l.all p) by exact not_any _ _)) .nil) (.dd .nil) rfl
theorem c_IndexFuncI (l : List Iv) (F_p : FuncId) (first_p : List (Bool × List D)) (caps_p : List D) (p : Iv → Bool) (h_p : ∀ (x0 : Iv), FnTrip Tryz.prog F_p first_p caps_p [(true, 2)] (Iv.c x0) [(false, 1)] [.v (.bool (p x0))]) : Trip Tryz.prog 230 [(false, 1), (false, 1)] ([.sl false 119 2 (List.map Iv.c (l))] ++ [.fn F_p first_p caps_p]) [(false, 1)] [.v (.int .i64 (idx p l))] [] := by
 refine Trip.of Tryz.func230 (by decide) (c := _) rfl rfl (Nat.le_of_ble_eq_true rfl) rfl (AftOk.nil _) <| .sl (t := 0) rfl fun hs1l => .seq <| .rs fun k2 => .as rfl <| .z <| .seq <| .seq <| .rs fun k3 => ?_
 refine .mv rfl <| .g (fun _ τ => ⟨_, .len (.no rfl) rfl (z := (l.length : Int)) t96 rfl rfl rfl (.d _ _) (map_len _ _) rfl τ⟩) <| .mv rfl <| .z <| .block ?_
 refine .loop (X := Nat) (fun ζ => .of [(0, .one (.d (.sl false 119 2 (List.map Iv.c (l))))), (1, .one (.d (.fn F_p first_p caps_p))), (7, .one (.d (.v (.int .i64 ((l.length : Int)))))), (8, .one (.d (.v (.int .i64 ((ζ : Int))))))] []) (fun ζ => ζ ≤ l.length ∧ allTo ζ (fun i => !p (l.getD i default)) = true) (fun ζ => l.length - ζ) ?_ ?_
 ·skip
  exact .here 0 (.of (.cons rfl (.cons rfl (.cons rfl (.cons (svI (show (0) = ((0 : Int)) by first | rfl | omega | exact wrap_le (by omega) (by omega) | (rw [wrap_le (by omega) (by omega)]; omega))) .nil)))) .nil) (show 0 ≤ l.length ∧ allTo 0 (fun i => !p (l.getD i default)) = true by exact ⟨by omega, rfl⟩)
 ·rintro j hI
  have hI : j ≤ l.length ∧ allTo j (fun i => !p (l.getD i default)) = true := hI
  refine .seq <| .rs fun k4 => .bi rfl <| .z <| .seq ?_
  refine .cond (t := decide ((j : Int) < (l.length : Int))) rfl (fun c0 => ?_) (fun c0 => ?_)
  ·have c0 := of_decide_eq_true c0
   refine .skip <| .seq <| .block <| .seq <| .rs fun k5 => .mv rfl <| .as rfl <| .z <| .seq ?_
   refine .rs fun k6 => .mv rfl <| .mv rfl <| .mv rfl <| .g (fun _ τ => ⟨_, .indexAddr (.no rfl) rfl (j) t96 rfl t119 rfl rfl rfl (.d _ _) rfl rfl rfl (map_get (by omega)) rfl rfl τ⟩) <| .lda t119 rfl (.d _) rfl <| .g (fun _ τ => ⟨_, .callF (.no rfl) rfl (ds := [.v (.int .i64 ((l.getD j default).lo)), .v (.int .i64 ((l.getD j default).hi))]) (h_p (l.getD j default)) rfl rfl rfl rfl (.own [16, 0] .nil) rfl rfl rfl rfl rfl rfl τ⟩) <| .z ?_
   refine .cond (t := p (l.getD j default)) rfl (fun c1 => ?_) (fun c1 => ?_)
   ·have c1 := c1
    refine .seq <| .rs fun k7 => .mv rfl <| .as rfl <| .z <| .ret ?_
    exact fin0 (.inr rfl) (.one (svI (show ((j : Int)) = (idx p l) by exact (idx_found (j := j) (by omega) hI.2 (by simpa using c1)).symm)) .nil) (.dd .nil) rfl
   ·have c1 := c1
    refine .skip <| .rs fun k9 => .bi rfl <| .mv rfl <| .z ?_
    exact .here (j + 1) (.of (.cons rfl (.cons rfl (.cons rfl (.cons (svI (show (IntKind.wrap .i64 ((j : Int) + 1)) = (((j + 1) : Int)) by first | rfl | omega | exact wrap_le (by omega) (by omega) | (rw [wrap_le (by omega) (by omega)]; omega))) .nil)))) .nil) ⟨(show (j + 1) ≤ l.length ∧ allTo (j + 1) (fun i => !p (l.getD i default)) = true by exact ⟨by omega, allTo_step hI.2 (by simpa using c1)⟩), (show l.length - (j + 1) < l.length - j by omega)⟩
  ·have c0 := of_decide_eq_false c0
   refine .exit <| .seq <| .rs fun k10 => .as rfl <| .z <| .ret ?_
   exact fin0 (.inr rfl) (.one (svI (show (-1) = (idx p l) by exact (idx_none (by omega) hI.2).symm)) .nil) (.dd .nil) rfl
theorem c_ContainsFuncI (l : List Iv) (F_p : FuncId) (first_p : List (Bool × List D)) (caps_p : List D) (p : Iv → Bool) (h_p : ∀ (x0 : Iv), FnTrip Tryz.prog F_p first_p caps_p [(true, 2)] (Iv.c x0) [(false, 1)] [.v (.bool (p x0))]) : Trip Tryz.prog 226 [(false, 1), (false, 1)] ([.sl false 119 2 (List.map Iv.c (l))] ++ [.fn F_p first_p caps_p]) [(false, 1)] [.v (.bool (l.any p))] [] := by
 refine Trip.of Tryz.func226 (by decide) (c := _) rfl rfl (Nat.le_of_ble_eq_true rfl) rfl (AftOk.nil _) <| .sl (t := 0) rfl fun hs1l => .seq <| .rs fun k2 => .as rfl <| .z <| .seq <| .rs fun k3 => .mv rfl ?_
 refine .mv rfl <| .c0 (c_IndexFuncI l F_p first_p caps_p p h_p) rfl (.dd (.dd .nil)) (.own [7, 0] .nil) rfl <| .bi rfl <| .as rfl <| .z <| .ret ?_
 exact fin0 (.inr rfl) (.one (svB (show (decide ((idx p l) ≥ 0)) = (l.any p) by exact idx_any _ _)) .nil) (.dd .nil) rfl
theorem c_areAll1I (x : Iv) (F_p : FuncId) (first_p : List (Bool × List D)) (caps_p : List D) (p : Iv → Bool) (h_p : ∀ (x0 : Iv), FnTrip Tryz.prog F_p first_p caps_p [(true, 2)] (Iv.c x0) [(false, 1)] [.v (.bool (p x0))]) : Trip Tryz.prog 227 [(true, 2), (false, 1)] (Iv.c x ++ [.pt false [.fn F_p first_p caps_p]]) [(false, 1)] [.v (.bool (!p x))] [] := by
 refine Trip.of Tryz.func227 (by decide) (c := _) rfl rfl (Nat.le_of_ble_eq_true rfl) rfl (AftOk.nil _) <| .seq <| .rs fun k1 => .g (fun _ τ => ⟨_, .box (.no rfl) rfl rfl rfl rfl rfl τ⟩) <| .as rfl <| .z <| .seq <| .rs fun k2 => .ld t181 rfl (.d _) rfl ?_
 refine .lda t119 rfl (.ptr _ _ _ _ _ rfl) rfl <| .g (fun _ τ => ⟨_, .callF (.no rfl) rfl (ds := [.v (.int .i64 (x.lo)), .v (.int .i64 (x.hi))]) (h_p x) rfl rfl rfl rfl (.own [6, 0] .nil) rfl rfl rfl rfl rfl rfl τ⟩) <| .un rfl <| .as rfl <| .z <| .ret ?_
 exact fin0 (.inr rfl) (.one (svB (show (!(p x)) = (!p x) by rfl)) .nil) (.dd .nil) rfl
theorem c_areAllI (l : List Iv) (F_p : FuncId) (first_p : List (Bool × List D)) (caps_p : List D) (p : Iv → Bool) (h_p : ∀ (x0 : Iv), FnTrip Tryz.prog F_p first_p caps_p [(true, 2)] (Iv.c x0) [(false, 1)] [.v (.bool (p x0))]) : Trip Tryz.prog 219 [(false, 1), (false, 1)] ([.sl false 119 2 (List.map Iv.c (l))] ++ [.fn F_p first_p caps_p]) [(false, 1)] [.v (.bool (l.all p))] [] := by
 refine Trip.of Tryz.func219 (by decide) (c := _) rfl rfl (Nat.le_of_ble_eq_true rfl) rfl (AftOk.nil _) <| .sl (t := 0) rfl fun hs1l => .seq <| .rs fun k2 => .g (fun _ τ => ⟨_, .box (.no rfl) rfl rfl rfl rfl rfl τ⟩) <| .as rfl <| .z <| .seq <| .rs fun k3 => ?_
 refine .mv rfl <| .g (fun _ τ => ⟨_, .makeFunc (.no rfl) rfl rfl rfl rfl rfl τ⟩) <| .g (fun _ τ => ⟨_, .call (.no rfl) rfl [[3]] [([3], (k2, k2, .box [.d (.fn F_p first_p caps_p)]))] (c_ContainsFuncI l 227 [] [.pt false [.fn F_p first_p caps_p]] (fun x0 => !p x0) (fun x0 => c_areAll1I x0 F_p first_p caps_p p h_p)) rfl rfl rfl rfl rfl (.dd (.cons (Reads.clo0 (.cons (Reads.ptr0 (.head _) (.head _) (.cons (Reads.d _) .nil)) .nil)).gives .nil)) rfl rfl (fun _ => (ownCons (Owned.v _) ownNil)) (.own [7, 0] .nil) (.nil) rfl rfl rfl (AllH.get (.r rfl)) rfl rfl rfl τ⟩) <| .un rfl <| .as rfl <| .z <| .ret ?_
 exact fin0 (.inr rfl) (.one (svB (show (!(l.any (fun x0 => !p x0))) = (l.all p) by exact not_any _ _)) .nil) (.dd .nil) rfl
theorem c_isLetter (c : Int) : Trip Tryz.prog 171 [(false, 1)] ([.v (.int .u8 (c))]) [(false, 1)] [.v (.bool (decide (c ≥ 97) && decide (c ≤ 122)))] [] := by
 refine Trip.of Tryz.func171 (by decide) (c := _) rfl rfl (Nat.le_of_ble_eq_true rfl) rfl (AftOk.nil _) <| .seq <| .rs fun k1 => .as rfl <| .z <| .seq ?_
 refine .reg (X := Unit) (fun ζ => .of [(2, .one (.d (.v (.bool ((decide (c ≥ 97) && decide (c ≤ 122)))))))] []) [⟨[0], some 3, [], []⟩, ⟨[3], some 4, [], []⟩, ⟨[4], some 5, [], []⟩, ⟨[5, 0], some 6, [], []⟩, ⟨[5, 6], some 7, [], []⟩, ⟨[5, 7], some 8, [], []⟩, ⟨[8], some 2, [], []⟩] (fun k2 => ?_) ?_
 ·skip
  refine .move (.no rfl) rfl rfl rfl rfl <| .bin (.no rfl) rfl rfl rfl rfl rfl rfl <| .moveB (.no rfl) rfl rfl rfl rfl fun b3 g1_2 => ?_
  cases b3
  ·skip
   refine .off rfl rfl rfl rfl rfl rfl rfl <| .off rfl rfl rfl rfl rfl rfl rfl <| .pick (.no rfl) rfl rfl rfl rfl rfl <| .assign (.no rfl) rfl rfl rfl rfl ?_
   exact .fin () (.of (.cons (svB (show (false) = ((decide (c ≥ 97) && decide (c ≤ 122))) by first | (simp only [g1_2, Bool.true_or, Bool.false_or, Bool.true_and, Bool.false_and, Bool.not_true, Bool.not_false]; done) | (simp [g1_2]; done) | (exfalso; simp_all; done))) .nil) .nil)
  ·skip
   refine .move (.on rfl rfl rfl rfl rfl) rfl rfl rfl rfl <| .bin (.on rfl rfl rfl rfl rfl) rfl rfl rfl rfl rfl rfl <| .pick (.no rfl) rfl rfl rfl rfl rfl <| .assign (.no rfl) rfl rfl rfl rfl ?_
   exact .fin () (.of (.cons (svB (show (decide (c ≤ 122)) = ((decide (c ≥ 97) && decide (c ≤ 122))) by first | (simp only [g1_2, Bool.true_or, Bool.false_or, Bool.true_and, Bool.false_and, Bool.not_true, Bool.not_false]; done) | (simp [g1_2]; done) | (exfalso; simp_all; done))) .nil) .nil)
 intro _
 refine .ret ?_
 exact fin0 (.inr rfl) (.one (svB (show ((decide (c ≥ 97) && decide (c ≤ 122))) = (decide (c ≥ 97) && decide (c ≤ 122)) by rfl)) .nil) (.dd .nil) rfl
theorem c_within (n : Int) (lo : Int) (hi : Int) : Trip Tryz.prog 131 [(false, 1), (false, 1), (false, 1)] ([.v (.int .i64 (n))] ++ [.v (.int .i64 (lo))] ++ [.v (.int .i64 (hi))]) [(false, 1)] [.v (.bool (inR n lo hi))] [] := by
 refine Trip.of Tryz.func131 (by decide) (c := _) rfl rfl (Nat.le_of_ble_eq_true rfl) rfl (AftOk.nil _) <| .seq <| .rs fun k1 => .as rfl <| .z <| .seq ?_
 refine .reg (X := Unit) (fun ζ => .of [(6, .one (.d (.v (.bool ((decide (lo ≤ n) && decide (n ≤ hi)))))))] []) [⟨[1], some 7, [], []⟩, ⟨[0], some 8, [], []⟩, ⟨[7, 8], some 9, [], []⟩, ⟨[9], some 10, [], []⟩, ⟨[10, 0], some 11, [], []⟩, ⟨[10, 2], some 12, [], []⟩, ⟨[10, 11, 12], some 13, [], []⟩, ⟨[10, 13], some 14, [], []⟩, ⟨[14], some 6, [], []⟩] (fun k2 => ?_) ?_
 ·skip
  refine .move (.no rfl) rfl rfl rfl rfl <| .move (.no rfl) rfl rfl rfl rfl <| .bin (.no rfl) rfl rfl rfl rfl rfl rfl <| .moveB (.no rfl) rfl rfl rfl rfl fun b3 g1_3 => ?_
  cases b3
  ·skip
   refine .off rfl rfl rfl rfl rfl rfl rfl <| .off rfl rfl rfl rfl rfl rfl rfl <| .off rfl rfl rfl rfl rfl rfl rfl <| .pick (.no rfl) rfl rfl rfl rfl rfl <| .assign (.no rfl) rfl rfl rfl rfl ?_
   exact .fin () (.of (.cons (svB (show (false) = ((decide (lo ≤ n) && decide (n ≤ hi))) by first | (simp only [g1_3, Bool.true_or, Bool.false_or, Bool.true_and, Bool.false_and, Bool.not_true, Bool.not_false]; done) | (simp [g1_3]; done) | (exfalso; simp_all; done))) .nil) .nil)
  ·skip
   refine .move (.on rfl rfl rfl rfl rfl) rfl rfl rfl rfl <| .move (.on rfl rfl rfl rfl rfl) rfl rfl rfl rfl <| .bin (.on rfl rfl rfl rfl rfl) rfl rfl rfl rfl rfl rfl <| .pick (.no rfl) rfl rfl rfl rfl rfl <| .assign (.no rfl) rfl rfl rfl rfl ?_
   exact .fin () (.of (.cons (svB (show (decide (n ≤ hi)) = ((decide (lo ≤ n) && decide (n ≤ hi))) by first | (simp only [g1_3, Bool.true_or, Bool.false_or, Bool.true_and, Bool.false_and, Bool.not_true, Bool.not_false]; done) | (simp [g1_3]; done) | (exfalso; simp_all; done))) .nil) .nil)
 intro _
 refine .ret ?_
 exact fin0 (.inr rfl) (.one (svB (show ((decide (lo ≤ n) && decide (n ≤ hi))) = (inR n lo hi) by rfl)) .nil) (.dd .nil) rfl
theorem c_IndexS (l : List ByteArray) (s : ByteArray) : Trip Tryz.prog 173 [(false, 1), (false, 1)] ([.sl false 9 1 (List.map strc (l))] ++ [.v (.string (s))]) [(false, 1)] [.v (.int .i64 (idx (fun x => strEq s x) l))] [] := by
 refine Trip.of Tryz.func173 (by decide) (c := _) rfl rfl (Nat.le_of_ble_eq_true rfl) rfl (AftOk.nil _) <| .sl (t := 0) rfl fun hs1l => .seq <| .rs fun k2 => .as rfl <| .z <| .seq <| .seq <| .rs fun k3 => ?_
 refine .mv rfl <| .g (fun _ τ => ⟨_, .len (.no rfl) rfl (z := (l.length : Int)) t22 rfl rfl rfl (.d _ _) (map_len _ _) rfl τ⟩) <| .mv rfl <| .z <| .block ?_
 refine .loop (X := Nat) (fun ζ => .of [(0, .one (.d (.sl false 9 1 (List.map strc (l))))), (1, .one (.d (.v (.string (s))))), (7, .one (.d (.v (.int .i64 ((l.length : Int)))))), (8, .one (.d (.v (.int .i64 ((ζ : Int))))))] []) (fun ζ => ζ ≤ l.length ∧ allTo ζ (fun i => !strEq s (l.getD i default)) = true) (fun ζ => l.length - ζ) ?_ ?_
 ·skip
  exact .here 0 (.of (.cons rfl (.cons rfl (.cons rfl (.cons (svI (show (0) = ((0 : Int)) by first | rfl | omega | exact wrap_le (by omega) (by omega) | (rw [wrap_le (by omega) (by omega)]; omega))) .nil)))) .nil) (show 0 ≤ l.length ∧ allTo 0 (fun i => !strEq s (l.getD i default)) = true by exact ⟨by omega, rfl⟩)
 ·rintro j hI
  have hI : j ≤ l.length ∧ allTo j (fun i => !strEq s (l.getD i default)) = true := hI
  refine .seq <| .rs fun k4 => .bi rfl <| .z <| .seq ?_
  refine .cond (t := decide ((j : Int) < (l.length : Int))) rfl (fun c0 => ?_) (fun c0 => ?_)
  ·have c0 := of_decide_eq_true c0
   refine .skip <| .seq <| .block <| .seq <| .rs fun k5 => .mv rfl <| .as rfl <| .z <| .seq ?_
   refine .rs fun k6 => .mv rfl <| .mv rfl <| .mv rfl <| .g (fun _ τ => ⟨_, .indexAddr (.no rfl) rfl (j) t22 rfl t9 rfl rfl rfl (.d _ _) rfl rfl rfl (map_get (by omega)) rfl rfl τ⟩) <| .ld t9 rfl (.d _) rfl <| .bi rfl <| .z ?_
   refine .cond (t := s.toList == (l.getD j default).toList) rfl (fun c1 => ?_) (fun c1 => ?_)
   ·have c1 := c1
    refine .seq <| .rs fun k7 => .mv rfl <| .as rfl <| .z <| .ret ?_
    exact fin0 (.inr rfl) (.one (svI (show ((j : Int)) = (idx (fun x => strEq s x) l) by exact (idx_found (p := fun x => strEq s x) (by omega) hI.2 c1).symm)) .nil) (.dd .nil) rfl
   ·have c1 := c1
    refine .skip <| .rs fun k9 => .bi rfl <| .mv rfl <| .z ?_
    exact .here (j + 1) (.of (.cons rfl (.cons rfl (.cons rfl (.cons (svI (show (IntKind.wrap .i64 ((j : Int) + 1)) = (((j + 1) : Int)) by first | rfl | omega | exact wrap_le (by omega) (by omega) | (rw [wrap_le (by omega) (by omega)]; omega))) .nil)))) .nil) ⟨(show (j + 1) ≤ l.length ∧ allTo (j + 1) (fun i => !strEq s (l.getD i default)) = true by exact ⟨by omega, allTo_step hI.2 (by rw [show strEq s (l.getD j default) = false from c1]; rfl)⟩), (show l.length - (j + 1) < l.length - j by omega)⟩
  ·have c0 := of_decide_eq_false c0
   refine .exit <| .seq <| .rs fun k10 => .as rfl <| .z <| .ret ?_
   exact fin0 (.inr rfl) (.one (svI (show (-1) = (idx (fun x => strEq s x) l) by exact (idx_none (p := fun x => strEq s x) (by omega) hI.2).symm)) .nil) (.dd .nil) rfl
theorem c_ContainsS (l : List ByteArray) (s : ByteArray) : Trip Tryz.prog 129 [(false, 1), (false, 1)] ([.sl false 9 1 (List.map strc (l))] ++ [.v (.string (s))]) [(false, 1)] [.v (.bool (l.any fun x => strEq s x))] [] := by
 refine Trip.of Tryz.func129 (by decide) (c := _) rfl rfl (Nat.le_of_ble_eq_true rfl) rfl (AftOk.nil _) <| .sl (t := 0) rfl fun hs1l => .seq <| .rs fun k2 => .as rfl <| .z <| .seq <| .rs fun k3 => .mv rfl ?_
 refine .mv rfl <| .c0 (c_IndexS l s) rfl (.dd (.dd .nil)) (.own [7, 0] .nil) rfl <| .bi rfl <| .as rfl <| .z <| .ret ?_
 exact fin0 (.inr rfl) (.one (svB (show (decide ((idx (fun x => strEq s x) l) ≥ 0)) = (l.any fun x => strEq s x) by exact idx_any _ _)) .nil) (.dd .nil) rfl
theorem asciiTab {W : World} {Z : Nat → Prop} (h : Laid W Z) : ∀ c : Nat, c < 256 → W.cell? ⟨0, c, none⟩ = some (.int .u8 (if Lib.isSp (UInt8.ofNat c) then 1 else 0)) := fun c hc => by
  obtain ⟨_, h2⟩ := h _ (List.mem_singleton.2 rfl)
  obtain ⟨v, h3, h4⟩ := h2 c (.v (.int .u8 (if Lib.isSp (UInt8.ofNat c) then 1 else 0))) (by simp [hc])
  cases h4; exact h3
def words : ByteArray := (⟨#[118, 97, 114, 32, 102, 108, 97, 103, 32, 97, 114, 114, 97, 121, 32, 105, 102, 32, 102, 111, 114, 107, 32, 101, 108, 115, 101, 32, 101, 110, 100, 32, 119, 104, 105, 108, 101, 32, 117, 110, 114, 111, 108, 108, 32, 97, 115, 115, 101, 114, 116, 32, 97, 115, 115, 117, 109, 101, 32, 105, 110, 112, 117, 116, 32, 115, 112, 108, 105, 116, 32, 109, 101, 114, 103, 101, 32, 116, 114, 117, 101, 32, 102, 97, 108, 115, 101]⟩ : ByteArray)
theorem words_ascii : ∀ (j : Nat) b, words.data.toList[j]? = some b → b.toNat < 128 := fun j b h => by
  have h1 : (words.data.toList.all fun b => decide (b.toNat < 128)) = true := by kernel_rfl
  exact of_decide_eq_true (List.all_eq_true.1 h1 b (List.mem_of_getElem? h))
theorem words_fields : Lib.fields words.data.toList = keys.map fun k => k.data.toList := by kernel_rfl
theorem c_Fields : Trip Tryz.prog 203 [(false, 1)] ([.v (.string (⟨#[118, 97, 114, 32, 102, 108, 97, 103, 32, 97, 114, 114, 97, 121, 32, 105, 102, 32, 102, 111, 114, 107, 32, 101, 108, 115, 101, 32, 101, 110, 100, 32, 119, 104, 105, 108, 101, 32, 117, 110, 114, 111, 108, 108, 32, 97, 115, 115, 101, 114, 116, 32, 97, 115, 115, 117, 109, 101, 32, 105, 110, 112, 117, 116, 32, 115, 112, 108, 105, 116, 32, 109, 101, 114, 103, 101, 32, 116, 114, 117, 101, 32, 102, 97, 108, 115, 101]⟩ : ByteArray))]) [(false, 1)] [.sl true 9 1 (List.map strc (keys))] [] := by
  have h := Trip.row1 (P := Tryz.prog) (f := 203) (x := .string words) (cs := keys.map .string) (e := 9) ⟨_, Tryz.func203, by decide, by decide⟩ rfl (by intro v hv; obtain ⟨s, _, rfl⟩ := List.mem_map.1 hv; rfl) (by decide) fun W Z hL _ =>
    (Any.strings_Fields_core Tryz.lays157 (by kernel_rfl) words W (by decide) words_ascii (asciiTab hL)).mono fun e w' ⟨h1, h2⟩ => by
      rw [words_fields] at h1 h2
      exact ⟨h1, h2⟩
  exact h
theorem c_isWord (s : ByteArray) : Trip Tryz.prog 172 [(false, 1)] ([.v (.string (s))]) [(false, 1)] [.v (.bool (isKey s))] [] := by
 refine Trip.of Tryz.func172 (by decide) (c := _) rfl rfl (Nat.le_of_ble_eq_true rfl) rfl (AftOk.nil _) <| .seq <| .rs fun k1 => .as rfl <| .z <| .seq <| .rs fun k2 => .c0 (c_Fields ) rfl (.dd .nil) (.frz [3, 0] (Frz.of_erase (erase_slo _ _ _ _ _ _ strc_e)) .nil) rfl <| .mv rfl ?_
 refine .c0 (c_ContainsS keys s) rfl (.dd (.dd .nil)) (.own [5, 0] .nil) rfl <| .as rfl <| .z <| .ret ?_
 exact fin0 (.inr rfl) (.one (svB (show (keys.any fun x => strEq s x) = (isKey s) by exact isKey_eq s)) .nil) (.dd .nil) rfl
theorem c_isName (s : ByteArray) (hs : s.size ≤ 9223372036854775807) : Trip Tryz.prog 128 [(false, 1)] ([.v (.string (s))]) [(false, 1)] [.v (.bool (nmOk s))] [] := by
 refine Trip.of Tryz.func128 (by decide) (c := _) rfl rfl (Nat.le_of_ble_eq_true rfl) rfl (AftOk.nil _) <| .seq <| .rs fun k1 => .as rfl <| .z <| .seq <| .seq <| .rs fun k2 => .mv rfl ?_
 refine .g (fun _ τ => ⟨_, .lenStr (.no rfl) rfl t9 rfl rfl rfl rfl rfl τ⟩) <| .mv rfl <| .z <| .block ?_
 refine .loop (X := Nat) (fun ζ => .of [(0, .one (.d (.v (.string (s))))), (5, .one (.d (.v (.int .i64 ((s.size : Int)))))), (6, .one (.d (.v (.int .i64 ((ζ : Int))))))] []) (fun ζ => ζ ≤ s.size ∧ allTo ζ (fun i => decide (97 ≤ byteAt s i ∧ byteAt s i ≤ 122)) = true) (fun ζ => s.size - ζ) ?_ ?_
 ·skip
  exact .here 0 (.of (.cons rfl (.cons rfl (.cons (svI (show (0) = ((0 : Int)) by first | rfl | omega | exact wrap_le (by omega) (by omega) | (rw [wrap_le (by omega) (by omega)]; omega))) .nil))) .nil) (show 0 ≤ s.size ∧ allTo 0 (fun i => decide (97 ≤ byteAt s i ∧ byteAt s i ≤ 122)) = true by exact ⟨by omega, rfl⟩)
 ·rintro j hI
  have hI : j ≤ s.size ∧ allTo j (fun i => decide (97 ≤ byteAt s i ∧ byteAt s i ≤ 122)) = true := hI
  refine .seq <| .rs fun k3 => .bi rfl <| .z <| .seq ?_
  refine .cond (t := decide ((j : Int) < (s.size : Int))) rfl (fun c0 => ?_) (fun c0 => ?_)
  ·have c0 := of_decide_eq_true c0
   refine .skip <| .seq <| .block <| .seq <| .rs fun k4 => .mv rfl <| .as rfl <| .z <| .seq ?_
   refine .rs fun k5 => .mv rfl <| .mv rfl <| .g (fun _ τ => ⟨_, .indexStr (.no rfl) rfl (z := byteAt s j) (j) t9 rfl rfl rfl rfl rfl (b8_get (by omega)) rfl rfl τ⟩) <| .c0 (c_isLetter (byteAt s j)) rfl (.dd .nil) (.own [12, 0] .nil) rfl <| .un rfl <| .z ?_
   refine .cond (t := !(decide ((byteAt s j) ≥ 97) && decide ((byteAt s j) ≤ 122))) rfl (fun c1 => ?_) (fun c1 => ?_)
   ·have c1 := (nT (aF dF dF)) c1
    refine .seq <| .rs fun k6 => .as rfl <| .z <| .ret ?_
    exact fin0 (.inr rfl) (.one (svB (show (false) = (nmOk s) by (simp only [nmOk, letters]; rw [allTo_fail (j := j) (by omega) (by simp only [decide_eq_false_iff_not]; omega)]; rfl))) .nil) (.dd .nil) rfl
   ·have c1 := (nF (aT dT dT)) c1
    refine .skip <| .rs fun k8 => .bi rfl <| .mv rfl <| .z ?_
    exact .here (j + 1) (.of (.cons rfl (.cons rfl (.cons (svI (show (IntKind.wrap .i64 ((j : Int) + 1)) = (((j + 1) : Int)) by first | rfl | omega | exact wrap_le (by omega) (by omega) | (rw [wrap_le (by omega) (by omega)]; omega))) .nil))) .nil) ⟨(show (j + 1) ≤ s.size ∧ allTo (j + 1) (fun i => decide (97 ≤ byteAt s i ∧ byteAt s i ≤ 122)) = true by exact ⟨by omega, allTo_step hI.2 (by simp only [decide_eq_true_eq]; omega)⟩), (show s.size - (j + 1) < s.size - j by omega)⟩
  ·have c0 := of_decide_eq_false c0
   refine .exit <| .seq ?_
   refine .reg (X := Unit) (fun ζ => .of [(2, .one (.d (.v (.bool ((inR (s.size : Int) 1 8 && !(isKey s)))))))] []) [⟨[0], some 15, [], []⟩, ⟨[15], some 16, [], []⟩, ⟨[16], some 17, [], []⟩, ⟨[17], some 18, [], []⟩, ⟨[18, 0], some 19, [], []⟩, ⟨[18, 19], some 20, [], []⟩, ⟨[18, 20], some 21, [], []⟩, ⟨[18, 21], some 22, [], []⟩, ⟨[22], some 2, [], []⟩] (fun k9 => ?_) ?_
   ·skip
    refine .move (.no rfl) rfl rfl rfl rfl <| .lenStr (.no rfl) rfl t9 rfl rfl rfl rfl rfl <| .call (.no rfl) rfl [] [] (c_within (s.size : Int) 1 8) rfl rfl rfl rfl rfl (.dd (.dd (.dd .nil))) rfl rfl (fun h => absurd rfl h) (.own [17, 0] .nil) (.nil) rfl rfl rfl (by simp) rfl rfl rfl <| .moveB (.no rfl) rfl rfl rfl rfl fun b10 g7_3 => ?_
    cases b10
    ·skip
     refine .off rfl rfl rfl rfl rfl rfl rfl <| .off rfl rfl rfl rfl rfl rfl rfl <| .off rfl rfl rfl rfl rfl rfl rfl <| .pick (.no rfl) rfl rfl rfl rfl rfl <| .assign (.no rfl) rfl rfl rfl rfl ?_
     exact .fin () (.of (.cons (svB (show (false) = ((inR (s.size : Int) 1 8 && !(isKey s))) by first | (simp only [g7_3, Bool.true_or, Bool.false_or, Bool.true_and, Bool.false_and, Bool.not_true, Bool.not_false]; done) | (simp [g7_3]; done) | (exfalso; simp_all; done))) .nil) .nil)
    ·skip
     refine .move (.on rfl rfl rfl rfl rfl) rfl rfl rfl rfl <| .call (.on rfl rfl rfl rfl rfl) rfl [] [] (c_isWord s) rfl rfl rfl rfl rfl (.dd .nil) rfl rfl (fun h => absurd rfl h) (.own [20, 0] .nil) (.nil) rfl rfl rfl (by simp) rfl rfl rfl <| .un (.on rfl rfl rfl rfl rfl) rfl rfl rfl rfl rfl <| .pick (.no rfl) rfl rfl rfl rfl rfl <| .assign (.no rfl) rfl rfl rfl rfl ?_
     exact .fin () (.of (.cons (svB (show (!(isKey s)) = ((inR (s.size : Int) 1 8 && !(isKey s))) by first | (simp only [g7_3, Bool.true_or, Bool.false_or, Bool.true_and, Bool.false_and, Bool.not_true, Bool.not_false]; done) | (simp [g7_3]; done) | (exfalso; simp_all; done))) .nil) .nil)
   intro _
   refine .ret ?_
   exact fin0 (.inr rfl) (.one (svB (show ((inR (s.size : Int) 1 8 && !(isKey s))) = (nmOk s) by (have hj : j = s.size := (by omega); subst hj; simp only [nmOk, letters]; rw [hI.2]; rfl))) .nil) (.dd .nil) rfl
theorem c_isRight1 (a : Arr) : Trip Tryz.prog 130 [(true, 2)] (Arr.c a) [(false, 1)] [.v (.bool (inR a.size 1 16))] [] := by
 refine Trip.of Tryz.func130 (by decide) (c := _) rfl rfl (Nat.le_of_ble_eq_true rfl) rfl (AftOk.nil _) <| .seq <| .rs fun k1 => .g (fun _ τ => ⟨_, .box (.no rfl) rfl rfl rfl rfl rfl τ⟩) <| .as rfl <| .z <| .seq <| .rs fun k2 => .fp t112 t2 rfl ?_
 refine .ld t2 rfl (.ptr _ _ _ _ _ rfl) rfl <| .c0 (c_within a.size 1 16) rfl (.dd (.dd (.dd .nil))) (.own [5, 0] .nil) rfl <| .as rfl <| .z <| .ret ?_
 exact fin0 (.inr rfl) (.one rfl .nil) (.dd .nil) rfl
theorem c_isRight (d : Decl) (hs : ∀ x ∈ Decl.names d, x.size ≤ 9223372036854775807) (hb : d.vars.length ≤ 1048576 ∧ d.flags.length ≤ 1048576 ∧ d.arrays.length ≤ 1048576) : Trip Tryz.prog 78 [(true, 3)] (Decl.c33 d) [(false, 1)] [.v (.bool (Decl.ok d))] [] := by
 refine Trip.of Tryz.func78 (by decide) (c := _) rfl rfl (Nat.le_of_ble_eq_true rfl) rfl (AftOk.nil _) <| .sla (t := 0) 0 rfl rfl fun hs1l => .sla (t := 0) 1 rfl rfl fun hs2l => .sla (t := 0) 2 rfl rfl fun hs3l => .seq <| .rs fun k4 => .g (fun _ τ => ⟨_, .box (.no rfl) rfl rfl rfl rfl rfl τ⟩) <| .as rfl <| .z ?_
 refine .seq <| .rs fun k5 => .lda t33 rfl (.ptr _ _ _ _ _ rfl) rfl <| .c0 (c_names d (by first | assumption | omega | exact hs _ (getD_mem (by omega)))) rfl (.dd (.dd (.dd .nil))) (.frz [8, 0] (Frz.of_erase (erase_slo _ _ _ _ _ _ strc_e)) .nil) rfl <| .as rfl <| .z <| .seq <| .seq <| .rs fun k6 => ?_
 refine .mv rfl <| .g (fun _ τ => ⟨_, .len (.no rfl) rfl (z := ((Decl.names d).length : Int)) t22 rfl rfl rfl (.d _ _) (map_len _ _) rfl τ⟩) <| .mv rfl <| .z <| .block ?_
 refine .loop (X := Nat) (fun ζ => .of [(1, .one (.ptr [1] (k4) 0)), (3, .one (.d (.sl false 9 1 (List.map strc (Decl.names d))))), (9, .one (.d (.sl false 9 1 (List.map strc (Decl.names d))))), (10, .one (.d (.v (.int .i64 (((Decl.names d).length : Int)))))), (11, .one (.d (.v (.int .i64 ((ζ : Int))))))] [([1], (k4, k4, .box [.d (.sl false 9 1 (List.map strc (d.vars))), .d (.sl false 9 1 (List.map strc (d.flags))), .d (.sl false 112 2 (List.map Arr.c (d.arrays)))]))]) (fun ζ => ζ ≤ (Decl.names d).length ∧ allTo ζ (nameOk (Decl.names d)) = true) (fun ζ => (Decl.names d).length - ζ) ?_ ?_
 ·skip
  exact .here 0 (.of (.cons rfl (.cons rfl (.cons rfl (.cons rfl (.cons (svI (show (0) = ((0 : Int)) by first | rfl | omega | exact wrap_le (by omega) (by omega) | (rw [wrap_le (by omega) (by omega)]; omega))) .nil))))) (.r rfl)) (show 0 ≤ (Decl.names d).length ∧ allTo 0 (nameOk (Decl.names d)) = true by exact ⟨by omega, rfl⟩)
 ·rintro j hI
  have hI : j ≤ (Decl.names d).length ∧ allTo j (nameOk (Decl.names d)) = true := hI
  have hn9 : (Decl.names d).length ≤ 3145728 := by simp [Decl.names]; omega
  refine .seq <| .rs fun k7 => .bi rfl <| .z <| .seq ?_
  refine .cond (t := decide ((j : Int) < ((Decl.names d).length : Int))) rfl (fun c0 => ?_) (fun c0 => ?_)
  ·have c0 := of_decide_eq_true c0
   refine .skip <| .seq <| .block <| .seq <| .rs fun k8 => .mv rfl <| .g (fun _ τ => ⟨_, .indexAddr (.no rfl) rfl (j) t22 rfl t9 rfl rfl rfl (.d _ _) rfl rfl rfl (map_get (by omega)) rfl rfl τ⟩) <| .ld t9 rfl (.d _) rfl <| .as rfl ?_
   refine .as rfl <| .z <| .seq ?_
   refine .reg (X := Unit) (fun ζ => .of [(1, .one (.ptr [1] (k4) 0)), (3, .one (.d (.sl false 9 1 (List.map strc (Decl.names d))))), (9, .one (.d (.sl false 9 1 (List.map strc (Decl.names d))))), (10, .one (.d (.v (.int .i64 (((Decl.names d).length : Int)))))), (11, .one (.d (.v (.int .i64 ((j : Int)))))), (25, .one (.d (.v (.bool ((!(nmOk ((Decl.names d).getD (j) default)) || ((Decl.names d).take j).any fun x => strEq ((Decl.names d).getD (j) default) x))))))] [([1], (k4, k4, .box [.d (.sl false 9 1 (List.map strc (d.vars))), .d (.sl false 9 1 (List.map strc (d.flags))), .d (.sl false 112 2 (List.map Arr.c (d.arrays)))]))]) [⟨[5], some 16, [], []⟩, ⟨[16], some 17, [], []⟩, ⟨[17], some 18, [], []⟩, ⟨[18], some 19, [], []⟩, ⟨[19, 3], some 20, [], []⟩, ⟨[19, 4], some 21, [], []⟩, ⟨[19, 20, 21], some 22, [], []⟩, ⟨[19, 5], some 23, [], []⟩, ⟨[19, 22, 23], some 24, [], []⟩, ⟨[19, 24], some 25, [], []⟩] (fun k9 => ?_) ?_
   ·skip
    refine .move (.no rfl) rfl rfl rfl rfl <| .call (.no rfl) rfl [] [] (c_isName ((Decl.names d).getD (j) default) (by first | assumption | omega | exact hs _ (getD_mem (by omega)))) rfl rfl rfl rfl rfl (.dd .nil) rfl rfl (fun h => absurd rfl h) (.own [17, 0] .nil) (.nil) rfl rfl rfl (by simp) rfl rfl rfl <| .un (.no rfl) rfl rfl rfl rfl rfl <| .moveB (.no rfl) rfl rfl rfl rfl fun b10 g5_3 => ?_
    cases b10
    ·skip
     refine .move (.on rfl rfl rfl rfl rfl) rfl rfl rfl rfl <| .move (.on rfl rfl rfl rfl rfl) rfl rfl rfl rfl <| .slice (.on rfl rfl rfl rfl rfl) rfl (lv := 0) (hv := j) (m := 0) t22 rfl t9 rfl rfl (.d _ _) rfl (by intro _ _ h; cases h) (by exact rfl) (by exact ⟨_, rfl⟩) (Nat.zero_le _) (le_map (by omega)) (cut_d0 _ _ _ _ _ _ _ _ _) rfl <| .move (.on rfl rfl rfl rfl rfl) rfl rfl rfl rfl <| .call (.on rfl rfl rfl rfl rfl) rfl [] [] (c_ContainsS ((Decl.names d).take j) ((Decl.names d).getD (j) default)) rfl rfl rfl rfl rfl (.dd (.dd .nil)) rfl rfl (fun h => absurd rfl h) (.own [24, 0] .nil) (.nil) rfl rfl rfl (by simp) rfl rfl rfl <| .pick (.no rfl) rfl rfl rfl rfl rfl ?_
     exact .fin () (.of (.cons rfl (.cons rfl (.cons rfl (.cons rfl (.cons rfl (.cons (svB (show (((Decl.names d).take j).any fun x => strEq ((Decl.names d).getD (j) default) x) = ((!(nmOk ((Decl.names d).getD (j) default)) || ((Decl.names d).take j).any fun x => strEq ((Decl.names d).getD (j) default) x)) by first | (simp only [g5_3, Bool.true_or, Bool.false_or, Bool.true_and, Bool.false_and, Bool.not_true, Bool.not_false]; done) | (simp [g5_3]; done) | (exfalso; simp_all; done))) .nil)))))) (.r rfl))
    ·skip
     refine .off rfl rfl rfl rfl rfl rfl rfl <| .off rfl rfl rfl rfl rfl rfl rfl <| .off rfl rfl rfl rfl rfl rfl rfl <| .off rfl rfl rfl rfl rfl rfl rfl <| .off rfl rfl rfl rfl rfl rfl rfl <| .pick (.no rfl) rfl rfl rfl rfl rfl ?_
     exact .fin () (.of (.cons rfl (.cons rfl (.cons rfl (.cons rfl (.cons rfl (.cons (svB (show (true) = ((!(nmOk ((Decl.names d).getD (j) default)) || ((Decl.names d).take j).any fun x => strEq ((Decl.names d).getD (j) default) x)) by first | (simp only [g5_3, Bool.true_or, Bool.false_or, Bool.true_and, Bool.false_and, Bool.not_true, Bool.not_false]; done) | (simp [g5_3]; done) | (exfalso; simp_all; done))) .nil)))))) (.r rfl))
   intro _
   refine .cond (t := (!(nmOk ((Decl.names d).getD (j) default)) || ((Decl.names d).take j).any fun x => strEq ((Decl.names d).getD (j) default) x)) rfl (fun c1 => ?_) (fun c1 => ?_)
   ·have c1 := (oT (nT id) id) c1
    refine .seq <| .rs fun k11 => .as rfl <| .z <| .ret ?_
    exact fin0 (.inr rfl) (.one (svB (show (false) = (Decl.ok d) by exact (Decl.ok_name2 (j := j) (by omega) c1).symm)) .nil) (.dd .nil) rfl
   ·have c1 := (oF (nF id) id) c1
    refine .skip <| .rs fun k13 => .bi rfl <| .mv rfl <| .z ?_
    exact .here (j + 1) (.of (.cons rfl (.cons rfl (.cons rfl (.cons rfl (.cons (svI (show (IntKind.wrap .i64 ((j : Int) + 1)) = (((j + 1) : Int)) by first | rfl | omega | exact wrap_le (by omega) (by omega) | (rw [wrap_le (by omega) (by omega)]; omega))) .nil))))) (.r rfl)) ⟨(show (j + 1) ≤ (Decl.names d).length ∧ allTo (j + 1) (nameOk (Decl.names d)) = true by exact ⟨by omega, allTo_step hI.2 (nameOk_of2 c1)⟩), (show (Decl.names d).length - (j + 1) < (Decl.names d).length - j by omega)⟩
  ·have c0 := of_decide_eq_false c0
   refine .exit <| .seq <| .rs fun k14 => .as rfl <| .z <| .seq ?_
   refine .reg (X := Unit) (fun ζ => .of [(2, .one (.d (.v (.bool ((((decide ((d.vars.length : Int) ≤ 5) && decide ((d.flags.length : Int) ≤ 3)) && decide ((d.arrays.length : Int) ≤ 2)) && d.arrays.all (fun x0 => inR x0.size 1 16)))))))] []) [⟨[1], some 27, [], []⟩, ⟨[27], some 28, [[1]], []⟩, ⟨[28], some 29, [], []⟩, ⟨[29], some 30, [], []⟩, ⟨[30], some 31, [], []⟩, ⟨[31, 1], some 32, [], []⟩, ⟨[31, 32], some 33, [[1]], []⟩, ⟨[31, 33], some 34, [], []⟩, ⟨[31, 34], some 35, [], []⟩, ⟨[31, 35], some 36, [], []⟩, ⟨[36], some 37, [], []⟩, ⟨[37, 1], some 38, [], []⟩, ⟨[37, 38], some 39, [[1]], []⟩, ⟨[37, 39], some 40, [], []⟩, ⟨[37, 40], some 41, [], []⟩, ⟨[37, 41], some 42, [], []⟩, ⟨[42], some 43, [], []⟩, ⟨[43, 1], some 44, [], []⟩, ⟨[43, 44], some 45, [[1]], []⟩, ⟨[43, 6], some 46, [], []⟩, ⟨[43, 45, 46], some 47, [], []⟩, ⟨[43, 47], some 48, [], []⟩, ⟨[48], some 2, [], []⟩] (fun k15 => ?_) ?_
   ·skip
    refine .fieldAddrP (.no rfl) rfl t33 rfl rfl t22 rfl rfl rfl rfl <| .load (.no rfl) rfl t22 rfl rfl (.ptr _ _ _ _ _ rfl) rfl rfl rfl rfl <| .len (.no rfl) rfl (z := (d.vars.length : Int)) t22 rfl rfl rfl (.d _ _) (map_len _ _) rfl <| .bin (.no rfl) rfl rfl rfl rfl rfl rfl <| .moveB (.no rfl) rfl rfl rfl rfl fun b16 g9_4 => ?_
    cases b16
    ·skip
     refine .off rfl rfl rfl rfl rfl rfl rfl <| .off rfl rfl rfl rfl rfl rfl rfl <| .off rfl rfl rfl rfl rfl rfl rfl <| .off rfl rfl rfl rfl rfl rfl rfl <| .pick (.no rfl) rfl rfl rfl rfl rfl <| .move (.no rfl) rfl rfl rfl rfl <| .off rfl rfl rfl rfl rfl rfl rfl <| .off rfl rfl rfl rfl rfl rfl rfl <| .off rfl rfl rfl rfl rfl rfl rfl ?_
     refine .off rfl rfl rfl rfl rfl rfl rfl <| .pick (.no rfl) rfl rfl rfl rfl rfl <| .move (.no rfl) rfl rfl rfl rfl <| .off rfl rfl rfl rfl rfl rfl rfl <| .off rfl rfl rfl rfl rfl rfl rfl <| .off rfl rfl rfl rfl rfl rfl rfl <| .off rfl rfl rfl rfl rfl rfl rfl <| .pick (.no rfl) rfl rfl rfl rfl rfl <| .assign (.no rfl) rfl rfl rfl rfl ?_
     exact .fin () (.of (.cons (svB (show (false) = ((((decide ((d.vars.length : Int) ≤ 5) && decide ((d.flags.length : Int) ≤ 3)) && decide ((d.arrays.length : Int) ≤ 2)) && d.arrays.all (fun x0 => inR x0.size 1 16))) by first | (simp only [g9_4, Bool.true_or, Bool.false_or, Bool.true_and, Bool.false_and, Bool.not_true, Bool.not_false]; done) | (simp [g9_4]; done) | (exfalso; simp_all; done))) .nil) .nil)
    ·skip
     refine .fieldAddrP (.on rfl rfl rfl rfl rfl) rfl t33 rfl rfl t22 rfl rfl rfl rfl <| .load (.on rfl rfl rfl rfl rfl) rfl t22 rfl rfl (.ptr _ _ _ _ _ rfl) rfl rfl rfl rfl <| .len (.on rfl rfl rfl rfl rfl) rfl (z := (d.flags.length : Int)) t22 rfl rfl rfl (.d _ _) (map_len _ _) rfl <| .bin (.on rfl rfl rfl rfl rfl) rfl rfl rfl rfl rfl rfl <| .pick (.no rfl) rfl rfl rfl rfl rfl <| .moveB (.no rfl) rfl rfl rfl rfl fun b17 g9_10 => ?_
     cases b17
     ·skip
      refine .off rfl rfl rfl rfl rfl rfl rfl <| .off rfl rfl rfl rfl rfl rfl rfl <| .off rfl rfl rfl rfl rfl rfl rfl <| .off rfl rfl rfl rfl rfl rfl rfl <| .pick (.no rfl) rfl rfl rfl rfl rfl <| .move (.no rfl) rfl rfl rfl rfl <| .off rfl rfl rfl rfl rfl rfl rfl <| .off rfl rfl rfl rfl rfl rfl rfl <| .off rfl rfl rfl rfl rfl rfl rfl ?_
      refine .off rfl rfl rfl rfl rfl rfl rfl <| .pick (.no rfl) rfl rfl rfl rfl rfl <| .assign (.no rfl) rfl rfl rfl rfl ?_
      exact .fin () (.of (.cons (svB (show (false) = ((((decide ((d.vars.length : Int) ≤ 5) && decide ((d.flags.length : Int) ≤ 3)) && decide ((d.arrays.length : Int) ≤ 2)) && d.arrays.all (fun x0 => inR x0.size 1 16))) by first | (simp only [g9_4, g9_10, Bool.true_or, Bool.false_or, Bool.true_and, Bool.false_and, Bool.not_true, Bool.not_false]; done) | (simp [g9_4, g9_10]; done) | (exfalso; simp_all; done))) .nil) .nil)
     ·skip
      refine .fieldAddrP (.on rfl rfl rfl rfl rfl) rfl t33 rfl rfl t31 rfl rfl rfl rfl <| .load (.on rfl rfl rfl rfl rfl) rfl t31 rfl rfl (.ptr _ _ _ _ _ rfl) rfl rfl rfl rfl <| .len (.on rfl rfl rfl rfl rfl) rfl (z := (d.arrays.length : Int)) t31 rfl rfl rfl (.d _ _) (map_len _ _) rfl <| .bin (.on rfl rfl rfl rfl rfl) rfl rfl rfl rfl rfl rfl <| .pick (.no rfl) rfl rfl rfl rfl rfl <| .moveB (.no rfl) rfl rfl rfl rfl fun b18 g9_16 => ?_
      cases b18
      ·skip
       refine .off rfl rfl rfl rfl rfl rfl rfl <| .off rfl rfl rfl rfl rfl rfl rfl <| .off rfl rfl rfl rfl rfl rfl rfl <| .off rfl rfl rfl rfl rfl rfl rfl <| .pick (.no rfl) rfl rfl rfl rfl rfl <| .assign (.no rfl) rfl rfl rfl rfl ?_
       exact .fin () (.of (.cons (svB (show (false) = ((((decide ((d.vars.length : Int) ≤ 5) && decide ((d.flags.length : Int) ≤ 3)) && decide ((d.arrays.length : Int) ≤ 2)) && d.arrays.all (fun x0 => inR x0.size 1 16))) by first | (simp only [g9_4, g9_10, g9_16, Bool.true_or, Bool.false_or, Bool.true_and, Bool.false_and, Bool.not_true, Bool.not_false]; done) | (simp [g9_4, g9_10, g9_16]; done) | (exfalso; simp_all; done))) .nil) .nil)
      ·skip
       refine .fieldAddrP (.on rfl rfl rfl rfl rfl) rfl t33 rfl rfl t31 rfl rfl rfl rfl <| .load (.on rfl rfl rfl rfl rfl) rfl t31 rfl rfl (.ptr _ _ _ _ _ rfl) rfl rfl rfl rfl <| .move (.on rfl rfl rfl rfl rfl) rfl rfl rfl rfl <| .call (.on rfl rfl rfl rfl rfl) rfl [] [] (c_areAllA d.arrays 130 [] [] (fun x0 => inR x0.size 1 16) (fun x0 => c_isRight1 x0)) rfl rfl rfl rfl rfl (.dd (.dd .nil)) rfl rfl (fun h => absurd rfl h) (.own [47, 0] .nil) (.nil) rfl rfl rfl (by simp) rfl rfl rfl <| .pick (.no rfl) rfl rfl rfl rfl rfl <| .assign (.no rfl) rfl rfl rfl rfl ?_
       exact .fin () (.of (.cons (svB (show (d.arrays.all (fun x0 => inR x0.size 1 16)) = ((((decide ((d.vars.length : Int) ≤ 5) && decide ((d.flags.length : Int) ≤ 3)) && decide ((d.arrays.length : Int) ≤ 2)) && d.arrays.all (fun x0 => inR x0.size 1 16))) by first | (simp only [g9_4, g9_10, g9_16, Bool.true_or, Bool.false_or, Bool.true_and, Bool.false_and, Bool.not_true, Bool.not_false]; done) | (simp [g9_4, g9_10, g9_16]; done) | (exfalso; simp_all; done))) .nil) .nil)
   intro _
   refine .ret ?_
   exact fin0 (.inr rfl) (.one (svB (show ((((decide ((d.vars.length : Int) ≤ 5) && decide ((d.flags.length : Int) ≤ 3)) && decide ((d.arrays.length : Int) ≤ 2)) && d.arrays.all (fun x0 => inR x0.size 1 16))) = (Decl.ok d) by exact Decl.ok_right (j := j) (by omega) hI.2)) .nil) (.dd .nil) rfl
theorem c_isEnv (d : Decl) (e : Env) : Trip Tryz.prog 199 [(true, 3), (true, 3)] (Decl.c33 d ++ Env.c98 e) [(false, 1)] [.v (.bool (Env.okIn d e))] [] := by
 refine Trip.of Tryz.func199 (by decide) (c := _) rfl rfl (Nat.le_of_ble_eq_true rfl) rfl (AftOk.nil _) <| .sla (t := 0) 0 rfl rfl fun hs1l => .sla (t := 0) 1 rfl rfl fun hs2l => .sla (t := 0) 2 rfl rfl fun hs3l => .sla (t := 1) 1 rfl rfl fun hs4l => .sla (t := 1) 2 rfl rfl fun hs5l => .seq <| .rs fun k6 => .g (fun _ τ => ⟨_, .box (.no rfl) rfl rfl rfl rfl rfl τ⟩) ?_
 refine .g (fun _ τ => ⟨_, .box (.no rfl) rfl rfl rfl rfl rfl τ⟩) <| .as rfl <| .z <| .seq <| .seq <| .rs fun k7 => .fp t98 t4 rfl <| .ld t4 rfl (.ptr _ _ _ _ _ rfl) rfl <| .un rfl ?_
 refine .z ?_
 refine .cond (t := !e.live) rfl (fun c0 => ?_) (fun c0 => ?_)
 ·have c0 := (nT id) c0
  refine .seq ?_
  refine .reg (X := Unit) (fun ζ => .of [(4, .one (.d (.v (.bool (((e.ints.length : Int) == 0 && (e.arrs.length : Int) == 0))))))] []) [⟨[3], some 8, [], []⟩, ⟨[8], some 9, [[3]], []⟩, ⟨[9], some 10, [], []⟩, ⟨[10], some 11, [], []⟩, ⟨[11], some 12, [], []⟩, ⟨[12, 3], some 13, [], []⟩, ⟨[12, 13], some 14, [[3]], []⟩, ⟨[12, 14], some 15, [], []⟩, ⟨[12, 15], some 16, [], []⟩, ⟨[12, 16], some 17, [], []⟩, ⟨[17], some 4, [], []⟩] (fun k8 => ?_) ?_
  ·skip
   refine .fieldAddrP (.no rfl) rfl t98 rfl rfl t96 rfl rfl rfl rfl <| .load (.no rfl) rfl t96 rfl rfl (.ptr _ _ _ _ _ rfl) rfl rfl rfl rfl <| .len (.no rfl) rfl (z := (e.ints.length : Int)) t96 rfl rfl rfl (.d _ _) (map_len _ _) rfl <| .bin (.no rfl) rfl rfl rfl rfl rfl rfl <| .moveB (.no rfl) rfl rfl rfl rfl fun b9 g2_4 => ?_
   cases b9
   ·skip
    refine .off rfl rfl rfl rfl rfl rfl rfl <| .off rfl rfl rfl rfl rfl rfl rfl <| .off rfl rfl rfl rfl rfl rfl rfl <| .off rfl rfl rfl rfl rfl rfl rfl <| .pick (.no rfl) rfl rfl rfl rfl rfl <| .assign (.no rfl) rfl rfl rfl rfl ?_
    exact .fin () (.of (.cons (svB (show (false) = (((e.ints.length : Int) == 0 && (e.arrs.length : Int) == 0)) by first | (simp only [g2_4, Bool.true_or, Bool.false_or, Bool.true_and, Bool.false_and, Bool.not_true, Bool.not_false]; done) | (simp [g2_4]; done) | (exfalso; simp_all; done))) .nil) .nil)
   ·skip
    refine .fieldAddrP (.on rfl rfl rfl rfl rfl) rfl t98 rfl rfl t96 rfl rfl rfl rfl <| .load (.on rfl rfl rfl rfl rfl) rfl t96 rfl rfl (.ptr _ _ _ _ _ rfl) rfl rfl rfl rfl <| .len (.on rfl rfl rfl rfl rfl) rfl (z := (e.arrs.length : Int)) t96 rfl rfl rfl (.d _ _) (map_len _ _) rfl <| .bin (.on rfl rfl rfl rfl rfl) rfl rfl rfl rfl rfl rfl <| .pick (.no rfl) rfl rfl rfl rfl rfl <| .assign (.no rfl) rfl rfl rfl rfl ?_
    exact .fin () (.of (.cons (svB (show ((e.arrs.length : Int) == 0) = (((e.ints.length : Int) == 0 && (e.arrs.length : Int) == 0)) by first | (simp only [g2_4, Bool.true_or, Bool.false_or, Bool.true_and, Bool.false_and, Bool.not_true, Bool.not_false]; done) | (simp [g2_4]; done) | (exfalso; simp_all; done))) .nil) .nil)
  intro _
  refine .ret ?_
  exact fin0 (.inr rfl) (.one (svB (show (((e.ints.length : Int) == 0 && (e.arrs.length : Int) == 0)) = (Env.okIn d e) by simp [Env.okIn, c0, Bool.and_assoc])) .nil) (.dd .nil) rfl
 ·have c0 := (nF id) c0
  refine .skip <| .seq ?_
  refine .reg (X := Unit) (fun ζ => .of [(4, .one (.d (.v (.bool (((((e.ints.length : Int) == (d.vars.length : Int) && (e.arrs.length : Int) == (d.arrays.length : Int)) && e.ints.all (fun x0 => Iv.ok x0)) && e.arrs.all (fun x0 => Iv.ok x0)))))))] []) [⟨[3], some 18, [], []⟩, ⟨[18], some 19, [[3]], []⟩, ⟨[19], some 20, [], []⟩, ⟨[2], some 21, [], []⟩, ⟨[21], some 22, [[2]], []⟩, ⟨[22], some 23, [], []⟩, ⟨[20, 23], some 24, [], []⟩, ⟨[24], some 25, [], []⟩, ⟨[25, 3], some 26, [], []⟩, ⟨[25, 26], some 27, [[3]], []⟩, ⟨[25, 27], some 28, [], []⟩, ⟨[25, 2], some 29, [], []⟩, ⟨[25, 29], some 30, [[2]], []⟩, ⟨[25, 30], some 31, [], []⟩, ⟨[25, 28, 31], some 32, [], []⟩, ⟨[25, 32], some 33, [], []⟩, ⟨[33], some 34, [], []⟩, ⟨[34, 3], some 35, [], []⟩, ⟨[34, 35], some 36, [[3]], []⟩, ⟨[34, 36], some 37, [], []⟩, ⟨[34, 37], some 38, [], []⟩, ⟨[38], some 39, [], []⟩, ⟨[39, 3], some 40, [], []⟩, ⟨[39, 40], some 41, [[3]], []⟩, ⟨[39, 41], some 42, [], []⟩, ⟨[39, 42], some 43, [], []⟩, ⟨[43], some 4, [], []⟩] (fun k11 => ?_) ?_
  ·skip
   refine .fieldAddrP (.no rfl) rfl t98 rfl rfl t96 rfl rfl rfl rfl <| .load (.no rfl) rfl t96 rfl rfl (.ptr _ _ _ _ _ rfl) rfl rfl rfl rfl <| .len (.no rfl) rfl (z := (e.ints.length : Int)) t96 rfl rfl rfl (.d _ _) (map_len _ _) rfl <| .fieldAddrP (.no rfl) rfl t33 rfl rfl t22 rfl rfl rfl rfl <| .load (.no rfl) rfl t22 rfl rfl (.ptr _ _ _ _ _ rfl) rfl rfl rfl rfl <| .len (.no rfl) rfl (z := (d.vars.length : Int)) t22 rfl rfl rfl (.d _ _) (map_len _ _) rfl <| .bin (.no rfl) rfl rfl rfl rfl rfl rfl <| .moveB (.no rfl) rfl rfl rfl rfl fun b12 g3_7 => ?_
   cases b12
   ·skip
    refine .off rfl rfl rfl rfl rfl rfl rfl <| .off rfl rfl rfl rfl rfl rfl rfl <| .off rfl rfl rfl rfl rfl rfl rfl <| .off rfl rfl rfl rfl rfl rfl rfl <| .off rfl rfl rfl rfl rfl rfl rfl <| .off rfl rfl rfl rfl rfl rfl rfl <| .off rfl rfl rfl rfl rfl rfl rfl <| .pick (.no rfl) rfl rfl rfl rfl rfl <| .move (.no rfl) rfl rfl rfl rfl ?_
    refine .off rfl rfl rfl rfl rfl rfl rfl <| .off rfl rfl rfl rfl rfl rfl rfl <| .off rfl rfl rfl rfl rfl rfl rfl <| .pick (.no rfl) rfl rfl rfl rfl rfl <| .move (.no rfl) rfl rfl rfl rfl <| .off rfl rfl rfl rfl rfl rfl rfl <| .off rfl rfl rfl rfl rfl rfl rfl <| .off rfl rfl rfl rfl rfl rfl rfl <| .pick (.no rfl) rfl rfl rfl rfl rfl ?_
    refine .assign (.no rfl) rfl rfl rfl rfl ?_
    exact .fin () (.of (.cons (svB (show (false) = (((((e.ints.length : Int) == (d.vars.length : Int) && (e.arrs.length : Int) == (d.arrays.length : Int)) && e.ints.all (fun x0 => Iv.ok x0)) && e.arrs.all (fun x0 => Iv.ok x0))) by first | (simp only [g3_7, Bool.true_or, Bool.false_or, Bool.true_and, Bool.false_and, Bool.not_true, Bool.not_false]; done) | (simp [g3_7]; done) | (exfalso; simp_all; done))) .nil) .nil)
   ·skip
    refine .fieldAddrP (.on rfl rfl rfl rfl rfl) rfl t98 rfl rfl t96 rfl rfl rfl rfl <| .load (.on rfl rfl rfl rfl rfl) rfl t96 rfl rfl (.ptr _ _ _ _ _ rfl) rfl rfl rfl rfl <| .len (.on rfl rfl rfl rfl rfl) rfl (z := (e.arrs.length : Int)) t96 rfl rfl rfl (.d _ _) (map_len _ _) rfl <| .fieldAddrP (.on rfl rfl rfl rfl rfl) rfl t33 rfl rfl t31 rfl rfl rfl rfl <| .load (.on rfl rfl rfl rfl rfl) rfl t31 rfl rfl (.ptr _ _ _ _ _ rfl) rfl rfl rfl rfl <| .len (.on rfl rfl rfl rfl rfl) rfl (z := (d.arrays.length : Int)) t31 rfl rfl rfl (.d _ _) (map_len _ _) rfl <| .bin (.on rfl rfl rfl rfl rfl) rfl rfl rfl rfl rfl rfl <| .pick (.no rfl) rfl rfl rfl rfl rfl <| .moveB (.no rfl) rfl rfl rfl rfl fun b13 g3_16 => ?_
    cases b13
    ·skip
     refine .off rfl rfl rfl rfl rfl rfl rfl <| .off rfl rfl rfl rfl rfl rfl rfl <| .off rfl rfl rfl rfl rfl rfl rfl <| .pick (.no rfl) rfl rfl rfl rfl rfl <| .move (.no rfl) rfl rfl rfl rfl <| .off rfl rfl rfl rfl rfl rfl rfl <| .off rfl rfl rfl rfl rfl rfl rfl <| .off rfl rfl rfl rfl rfl rfl rfl <| .pick (.no rfl) rfl rfl rfl rfl rfl ?_
     refine .assign (.no rfl) rfl rfl rfl rfl ?_
     exact .fin () (.of (.cons (svB (show (false) = (((((e.ints.length : Int) == (d.vars.length : Int) && (e.arrs.length : Int) == (d.arrays.length : Int)) && e.ints.all (fun x0 => Iv.ok x0)) && e.arrs.all (fun x0 => Iv.ok x0))) by first | (simp only [g3_7, g3_16, Bool.true_or, Bool.false_or, Bool.true_and, Bool.false_and, Bool.not_true, Bool.not_false]; done) | (simp [g3_7, g3_16]; done) | (exfalso; simp_all; done))) .nil) .nil)
    ·skip
     refine .fieldAddrP (.on rfl rfl rfl rfl rfl) rfl t98 rfl rfl t96 rfl rfl rfl rfl <| .load (.on rfl rfl rfl rfl rfl) rfl t96 rfl rfl (.ptr _ _ _ _ _ rfl) rfl rfl rfl rfl <| .call (.on rfl rfl rfl rfl rfl) rfl [] [] (c_areAllI e.ints 150 [] [] (fun x0 => Iv.ok x0) (fun x0 => c_IvOk x0)) rfl rfl rfl rfl rfl (.dd (.dd .nil)) rfl rfl (fun h => absurd rfl h) (.own [37, 0] .nil) (.nil) rfl rfl rfl (by simp) rfl rfl rfl <| .pick (.no rfl) rfl rfl rfl rfl rfl <| .moveB (.no rfl) rfl rfl rfl rfl fun b14 g3_21 => ?_
     cases b14
     ·skip
      refine .off rfl rfl rfl rfl rfl rfl rfl <| .off rfl rfl rfl rfl rfl rfl rfl <| .off rfl rfl rfl rfl rfl rfl rfl <| .pick (.no rfl) rfl rfl rfl rfl rfl <| .assign (.no rfl) rfl rfl rfl rfl ?_
      exact .fin () (.of (.cons (svB (show (false) = (((((e.ints.length : Int) == (d.vars.length : Int) && (e.arrs.length : Int) == (d.arrays.length : Int)) && e.ints.all (fun x0 => Iv.ok x0)) && e.arrs.all (fun x0 => Iv.ok x0))) by first | (simp only [g3_7, g3_16, g3_21, Bool.true_or, Bool.false_or, Bool.true_and, Bool.false_and, Bool.not_true, Bool.not_false]; done) | (simp [g3_7, g3_16, g3_21]; done) | (exfalso; simp_all; done))) .nil) .nil)
     ·skip
      refine .fieldAddrP (.on rfl rfl rfl rfl rfl) rfl t98 rfl rfl t96 rfl rfl rfl rfl <| .load (.on rfl rfl rfl rfl rfl) rfl t96 rfl rfl (.ptr _ _ _ _ _ rfl) rfl rfl rfl rfl <| .call (.on rfl rfl rfl rfl rfl) rfl [] [] (c_areAllI e.arrs 150 [] [] (fun x0 => Iv.ok x0) (fun x0 => c_IvOk x0)) rfl rfl rfl rfl rfl (.dd (.dd .nil)) rfl rfl (fun h => absurd rfl h) (.own [42, 0] .nil) (.nil) rfl rfl rfl (by simp) rfl rfl rfl <| .pick (.no rfl) rfl rfl rfl rfl rfl <| .assign (.no rfl) rfl rfl rfl rfl ?_
      exact .fin () (.of (.cons (svB (show (e.arrs.all (fun x0 => Iv.ok x0)) = (((((e.ints.length : Int) == (d.vars.length : Int) && (e.arrs.length : Int) == (d.arrays.length : Int)) && e.ints.all (fun x0 => Iv.ok x0)) && e.arrs.all (fun x0 => Iv.ok x0))) by first | (simp only [g3_7, g3_16, g3_21, Bool.true_or, Bool.false_or, Bool.true_and, Bool.false_and, Bool.not_true, Bool.not_false]; done) | (simp [g3_7, g3_16, g3_21]; done) | (exfalso; simp_all; done))) .nil) .nil)
  intro _
  refine .ret ?_
  exact fin0 (.inr rfl) (.one (svB (show (((((e.ints.length : Int) == (d.vars.length : Int) && (e.arrs.length : Int) == (d.arrays.length : Int)) && e.ints.all (fun x0 => Iv.ok x0)) && e.arrs.all (fun x0 => Iv.ok x0))) = (Env.okIn d e) by simp [Env.okIn, c0, Bool.and_assoc])) .nil) (.dd .nil) rfl
end Go.Proofs

namespace Go.Proofs
open Go Go.Proofs Go.Ev

theorem c_CloneI (l : List Iv) (hb : l.length ≤ 2097152) : Trip Tryz.prog 190 [(false, 1)] ([.sl false 119 2 (List.map Iv.c (l))]) [(false, 1)] [.sl true 119 2 (List.map Iv.c (l))] [] := by
 refine Trip.of Tryz.func190 (by decide) (c := _) rfl rfl (Nat.le_of_ble_eq_true rfl) rfl (AftOk.nil _) <| .sl (t := 0) rfl fun hs1l => .seq <| .rs fun k2 => .as rfl <| .z <| .seq <| .seq ?_
 refine .nilEq t96 rfl rfl rfl rfl rfl rfl rfl rfl rfl rfl rfl (fun b3 hb3 => ?_)
 refine .cond (t := b3) rfl (fun c0 => ?_) (fun c0 => ?_)
 ·have c0 := c0
  refine .seq <| .rs fun k4 => .as rfl <| .z <| .ret ?_
  exact fin0 (.inr rfl) (.one rfl .nil) (.cons (Gives.nil' (by first | rfl | simp_all)) .nil) rfl
 ·have c0 := c0
  refine .skip <| .seq <| .rs fun k5 => .g (fun _ τ => ⟨_, .buildSlice (.no rfl) rfl (els := []) t96 rfl z119 rfl rfl rfl rfl rfl rfl rfl rfl (by simp [i119]) .nil rfl rfl rfl τ⟩) <| .mv rfl <| .g (fun _ τ => ⟨_, .append (.no rfl) rfl (l3 := List.map Iv.c (l)) t96 rfl z119 rfl rfl rfl rfl rfl rfl rfl rfl (.ref _ _ _ _ rfl) (.ro _ _) rfl (by simp [i119]; omega) (List.nil_append _) rfl rfl τ⟩) <| .as rfl <| .z <| .ret ?_
  exact fin1 (.inr rfl) [] [([5], (k5 + 1 + 1, k5 + 1 + 1, .row 119 2 (List.map Iv.c (l))))] (.one rfl .nil) (.cons (.ref (.head _)) .nil) rfl rfl (.r rfl)
theorem c_own (e : Env) (hb : e.ints.length ≤ 1048576 ∧ e.arrs.length ≤ 1048576) : Trip Tryz.prog 149 [(true, 3)] (Env.c98 e) [(true, 3)] [.v (.bool (e.live)), .sl true 119 2 (List.map Iv.c (e.ints)), .sl true 119 2 (List.map Iv.c (e.arrs))] [] := by
 refine Trip.of Tryz.func149 (by decide) (c := _) rfl rfl (Nat.le_of_ble_eq_true rfl) rfl (AftOk.nil _) <| .sla (t := 0) 1 rfl rfl fun hs1l => .sla (t := 0) 2 rfl rfl fun hs2l => .seq <| .rs fun k3 => .g (fun _ τ => ⟨_, .box (.no rfl) rfl rfl rfl rfl rfl τ⟩) <| .g (fun _ τ => ⟨_, .alloc (.no rfl) rfl z98 rfl rfl rfl τ⟩) <| .z <| .seq ?_
 refine .regD (X := Nat × Nat × Nat) (by kernel_rfl) (fun ζ => .of [(1, .one (.ptr [1] (k3) 0)), (2, .one (.ptr [2] (k3 + 1) 0))] [([1], (k3, ζ.1, .box [.d (.v (.bool (e.live))), .ref [5, 0] (ζ.2.1), .ref [8, 0] (ζ.2.2)])), ([2], (k3 + 1, k3 + 1, .box [.d (.v (.bool (false))), .d (.v (.slice none 0 0)), .d (.v (.slice none 0 0))])), ([5, 0], (ζ.2.1, ζ.2.1, .row 119 2 (List.map Iv.c (e.ints)))), ([8, 0], (ζ.2.2, ζ.2.2, .row 119 2 (List.map Iv.c (e.arrs))))]) [⟨[1], some 3, [], []⟩, ⟨[3], some 4, [[1]], []⟩, ⟨[4], some 5, [], [[5, 0]]⟩, ⟨[1], some 6, [], []⟩, ⟨[6], some 7, [[1]], []⟩, ⟨[7], some 8, [], [[8, 0]]⟩, ⟨[1], some 9, [], []⟩, ⟨[9, 5], none, [[1]], [[1]]⟩, ⟨[1], some 10, [], []⟩, ⟨[10, 8], none, [[1]], [[1]]⟩] (by kernel_rfl) (fun k4 => ?_) ?_
 ·skip
  refine .fieldAddrP (.no rfl) rfl t98 rfl rfl t96 rfl rfl rfl rfl <| .load (.no rfl) rfl t96 rfl rfl (.ptr _ _ _ _ _ rfl) rfl rfl rfl rfl <| .call (.no rfl) rfl [] [] (c_CloneI e.ints (by omega)) rfl rfl rfl rfl rfl (.dd .nil) rfl rfl (fun h => absurd rfl h) (.own [5, 0] .nil) (.nil) rfl rfl rfl (by simp) rfl rfl rfl <| .fieldAddrP (.no rfl) rfl t98 rfl rfl t96 rfl rfl rfl rfl <| .load (.no rfl) rfl t96 rfl rfl (.ptr _ _ _ _ _ rfl) rfl rfl rfl rfl <| .call (.no rfl) rfl [] [] (c_CloneI e.arrs (by omega)) rfl rfl rfl rfl rfl (.dd .nil) rfl rfl (fun h => absurd rfl h) (.own [8, 0] .nil) (.nil) rfl rfl rfl (by simp) rfl rfl rfl <| .fieldAddrP (.no rfl) rfl t98 rfl rfl t96 rfl rfl rfl rfl <| .store (.no rfl) rfl t96 rfl rfl rfl rfl rfl rfl rfl rfl rfl <| .fieldAddrP (.no rfl) rfl t98 rfl rfl t96 rfl rfl rfl rfl ?_
  refine .store (.no rfl) rfl t96 rfl rfl rfl rfl rfl rfl rfl rfl rfl ?_
  exact .fin (k4 + 1 + 1 + 1 + 1 + 1 + 1 + 1 + 1 + 1, k4 + 1 + 1, k4 + 1 + 1 + 1 + 1 + 1) (.of (.r rfl) (.r rfl))
 rintro ⟨g5, g6, g7⟩
 refine .seq <| .rs fun k8 => .lda t98 rfl (.ptr _ _ _ _ _ rfl) rfl <| .g (fun _ τ => ⟨_, .store (.no rfl) rfl t98 rfl rfl rfl rfl rfl rfl rfl rfl rfl τ⟩) <| .z <| .ret ?_
 exact fin1 (.inr rfl) [] [([5, 0], (g6, g6, .row 119 2 (List.map Iv.c (e.ints)))), ([8, 0], (g7, g7, .row 119 2 (List.map Iv.c (e.arrs))))] (.cell (cells := [.d (.v (.bool (e.live))), .ref [5, 0] (g6), .ref [8, 0] (g7)]) rfl rfl t98 rfl rfl .nil) (.dd (.cons (.ref (.head _)) (.cons (.ref (.tail _ (.head _))) .nil))) rfl rfl (.r rfl)
theorem c_joined (a : List Iv) (b : List Iv) (F_f : FuncId) (first_f : List (Bool × List D)) (caps_f : List D) (f : Iv → Iv → Iv) (h_f : ∀ (x0 : Iv) (x1 : Iv), FnTrip Tryz.prog F_f first_f caps_f [(true, 2), (true, 2)] (Iv.c x0 ++ Iv.c x1) [(true, 2)] [.v (.int .i64 ((f x0 x1).lo)), .v (.int .i64 ((f x0 x1).hi))]) (hl : a.length = b.length ∧ a.length ≤ 2097152) : Trip Tryz.prog 188 [(false, 1), (false, 1), (false, 1)] ([.sl false 119 2 (List.map Iv.c (a))] ++ [.sl false 119 2 (List.map Iv.c (b))] ++ [.fn F_f first_f caps_f]) [(false, 1)] [.sl true 119 2 (List.map Iv.c (zip2 f a b))] [] := by
 refine Trip.of Tryz.func188 (by decide) (c := _) rfl rfl (Nat.le_of_ble_eq_true rfl) rfl (AftOk.nil _) <| .sl (t := 0) rfl fun hs1l => .sl (t := 1) rfl fun hs2l => .seq <| .rs fun k3 => .as rfl <| .z <| .seq <| .rs fun k4 => ?_
 refine .as rfl <| .z <| .seq <| .seq <| .rs fun k5 => .mv rfl <| .g (fun _ τ => ⟨_, .len (.no rfl) rfl (z := (a.length : Int)) t96 rfl rfl rfl (.d _ _) (map_len _ _) rfl τ⟩) <| .mv rfl <| .z ?_
 refine .block ?_
 refine .loop (X := Nat × Nat × Nat) (fun ζ => .of [(1, .one (.d (.sl false 119 2 (List.map Iv.c (b))))), (2, .one (.d (.fn F_f first_f caps_f))), (7, .one (.ref [26] (ζ.2.1))), (10, .one (.d (.sl false 119 2 (List.map Iv.c (a))))), (11, .one (.d (.v (.int .i64 ((a.length : Int)))))), (12, .one (.d (.v (.int .i64 ((ζ.1 : Int))))))] [([26], (ζ.2.1, ζ.2.2, .row 119 2 (List.map Iv.c (zip2To f a b ζ.1))))]) (fun ζ => ζ.1 ≤ a.length) (fun ζ => a.length - ζ.1) ?_ ?_
 ·skip
  refine .nilRow 7 [26] 119 2 rfl fun k8 => ?_
  exact .here (0, k8, k8) (.of (.cons rfl (.cons rfl (.cons rfl (.cons rfl (.cons rfl (.cons (svI (show (0) = ((0 : Int)) by first | rfl | omega | exact wrap_le (by omega) (by omega) | (rw [wrap_le (by omega) (by omega)]; omega))) .nil)))))) (.cons (rowE (show [] = List.map Iv.c (zip2To f a b 0) by first | rfl | exact congrArg _ (zip2To_step _ _ _ _))) .nil)) (show 0 ≤ a.length by omega)
 ·rintro ⟨j, q6, q7⟩ hI
  have hI : j ≤ a.length := hI
  dsimp only
  refine .seq <| .rs fun k9 => .bi rfl <| .z <| .seq ?_
  refine .cond (t := decide ((j : Int) < (a.length : Int))) rfl (fun c0 => ?_) (fun c0 => ?_)
  ·have c0 := of_decide_eq_true c0
   refine .skip <| .seq <| .block <| .seq <| .rs fun k10 => .mv rfl <| .g (fun _ τ => ⟨_, .indexAddr (.no rfl) rfl (j) t96 rfl t119 rfl rfl rfl (.d _ _) rfl rfl rfl (map_get (by omega)) rfl rfl τ⟩) <| .lda t119 rfl (.d _) rfl <| .g (fun _ τ => ⟨_, .alloc (.no rfl) rfl z119 rfl rfl rfl τ⟩) ?_
   refine .as rfl <| .g (fun _ τ => ⟨_, .store (.no rfl) rfl t119 rfl rfl rfl rfl rfl rfl rfl rfl rfl τ⟩) <| .z ?_
   refine .regD (X := Nat) (by kernel_rfl) (fun ζ => .of [(1, .one (.d (.sl false 119 2 (List.map Iv.c (b))))), (2, .one (.d (.fn F_f first_f caps_f))), (7, .one (.ref [26] (ζ))), (10, .one (.d (.sl false 119 2 (List.map Iv.c (a))))), (11, .one (.d (.v (.int .i64 ((a.length : Int)))))), (12, .one (.d (.v (.int .i64 ((j : Int))))))] [([26], (ζ, ζ, .row 119 2 (List.map Iv.c (zip2To f a b j ++ [(f (a.getD j default) (b.getD j default))]))))]) [⟨[7], some 17, [], []⟩, ⟨[2], some 18, [], []⟩, ⟨[9], some 19, [[9]], []⟩, ⟨[1], some 20, [], []⟩, ⟨[8], some 21, [], []⟩, ⟨[20, 21], some 22, [], []⟩, ⟨[22], some 23, [], []⟩, ⟨[18, 19, 23], some 24, [], []⟩, ⟨[24], some 25, [], [[25]]⟩, ⟨[17, 25], some 26, [[26], [25]], [[25], [26]]⟩, ⟨[26], some 7, [], []⟩] (by kernel_rfl) (fun k11 => ?_) ?_
   ·skip
    refine .move (.no rfl) rfl rfl rfl rfl <| .move (.no rfl) rfl rfl rfl rfl <| .load (.no rfl) rfl t119 rfl rfl (.ptr _ _ _ _ _ rfl) rfl rfl rfl rfl <| .move (.no rfl) rfl rfl rfl rfl <| .move (.no rfl) rfl rfl rfl rfl <| .indexAddr (.no rfl) rfl (j) t96 rfl t119 rfl rfl rfl (.d _ _) rfl rfl rfl (map_get (by omega)) rfl rfl <| .load (.no rfl) rfl t119 rfl rfl (.d _) rfl rfl rfl rfl <| .callF (.no rfl) rfl (ds := [.v (.int .i64 ((a.getD j default).lo)), .v (.int .i64 ((a.getD j default).hi)), .v (.int .i64 ((b.getD j default).lo)), .v (.int .i64 ((b.getD j default).hi))]) (h_f (a.getD j default) (b.getD j default)) rfl rfl rfl rfl (.own [24, 0] (.own [24, 1] .nil)) rfl rfl rfl rfl rfl rfl ?_
    refine .buildSlice (.no rfl) rfl (els := [[.v (.int .i64 ((f (a.getD j default) (b.getD j default)).lo)), .v (.int .i64 ((f (a.getD j default) (b.getD j default)).hi))]]) t96 rfl z119 rfl rfl rfl rfl rfl rfl rfl rfl (by simp [i119]) (.cons _ _ _ _ _ _ (.d _) (.cons _ _ _ _ _ _ (.d _) .nil)) rfl rfl rfl <| .append (.no rfl) rfl (l3 := List.map Iv.c (zip2To f a b j ++ [(f (a.getD j default) (b.getD j default))])) t96 rfl z119 rfl rfl rfl rfl rfl rfl rfl rfl (.ref _ _ _ _ rfl) (.take _ _ _ _ _ rfl) rfl (by simp only [List.length_map, zip2To_len, i119]; simp; omega) (map_snoc _ _ _) rfl rfl <| .assign (.no rfl) rfl rfl rfl rfl ?_
    exact .fin (k11 + 1 + 1 + 1 + 1 + 1 + 1 + 1 + 1 + 1) (.of (.r rfl) (.r rfl))
   intro g12
   refine .rs fun k13 => .bi rfl <| .mv rfl <| .z ?_
   exact .here ((j + 1), g12, g12) (.of (.cons rfl (.cons rfl (.cons rfl (.cons rfl (.cons rfl (.cons (svI (show (IntKind.wrap .i64 ((j : Int) + 1)) = (((j + 1) : Int)) by first | rfl | omega | exact wrap_le (by omega) (by omega) | (rw [wrap_le (by omega) (by omega)]; omega))) .nil)))))) (.cons (rowE (show List.map Iv.c (zip2To f a b j ++ [(f (a.getD j default) (b.getD j default))]) = List.map Iv.c (zip2To f a b (j + 1)) by first | rfl | exact congrArg _ (zip2To_step _ _ _ _))) .nil)) ⟨(show (j + 1) ≤ a.length by omega), (show a.length - (j + 1) < a.length - j by omega)⟩
  ·have c0 := of_decide_eq_false c0
   refine .exit <| .seq <| .rs fun k14 => .mv rfl <| .as rfl <| .z <| .ret ?_
   have e15 : (zip2To f a b j) = (zip2 f a b) := by exact zip2To_all _ hI (by omega)
   exact fin1 (.inr rfl) [] [([26], (q6, q7, .row 119 2 (List.map Iv.c (zip2 f a b))))] (.one rfl .nil) (.cons (.ref (.head _)) .nil) rfl rfl (.cons (rowE (congrArg (List.map Iv.c) e15)) .nil)
theorem c_with (e : Env) (b : Env) (F_f : FuncId) (first_f : List (Bool × List D)) (caps_f : List D) (f : Iv → Iv → Iv) (h_f : ∀ (x0 : Iv) (x1 : Iv), FnTrip Tryz.prog F_f first_f caps_f [(true, 2), (true, 2)] (Iv.c x0 ++ Iv.c x1) [(true, 2)] [.v (.int .i64 ((f x0 x1).lo)), .v (.int .i64 ((f x0 x1).hi))]) (hj : e.live = true → b.live = true → e.ints.length = b.ints.length ∧ e.arrs.length = b.arrs.length) (hb : e.ints.length ≤ 1048576 ∧ e.arrs.length ≤ 1048576 ∧ b.ints.length ≤ 1048576 ∧ b.arrs.length ≤ 1048576) : Trip Tryz.prog 145 [(true, 3), (true, 3), (false, 1)] (Env.c98 e ++ Env.c98 b ++ [.fn F_f first_f caps_f]) [(true, 3)] [.v (.bool ((Env.joinW f e b).live)), .sl true 119 2 (List.map Iv.c ((Env.joinW f e b).ints)), .sl true 119 2 (List.map Iv.c ((Env.joinW f e b).arrs))] [] := by
 refine Trip.of Tryz.func145 (by decide) (c := _) rfl rfl (Nat.le_of_ble_eq_true rfl) rfl (AftOk.nil _) <| .sla (t := 0) 1 rfl rfl fun hs1l => .sla (t := 0) 2 rfl rfl fun hs2l => .sla (t := 1) 1 rfl rfl fun hs3l => .sla (t := 1) 2 rfl rfl fun hs4l => .seq <| .rs fun k5 => .g (fun _ τ => ⟨_, .box (.no rfl) rfl rfl rfl rfl rfl τ⟩) <| .g (fun _ τ => ⟨_, .box (.no rfl) rfl rfl rfl rfl rfl τ⟩) ?_
 refine .g (fun _ τ => ⟨_, .alloc (.no rfl) rfl z98 rfl rfl rfl τ⟩) <| .z <| .seq <| .block <| .seq <| .rs fun k6 => .fp t98 t4 rfl <| .ld t4 rfl (.ptr _ _ _ _ _ rfl) rfl <| .un rfl ?_
 refine .as rfl <| .z ?_
 refine .cond (t := !e.live) rfl (fun c0 => ?_) (fun c0 => ?_)
 ·have c0 := (nT id) c0
  refine .seq <| .rs fun k7 => .lda t98 rfl (.ptr _ _ _ _ _ rfl) rfl <| .c0 (c_own b (by first | omega | (have hj9 := hj c0 c1; omega))) rfl (.dd (.dd (.dd .nil))) (.own [12, 0] (.own [12, 1] (.own [12, 2] .nil))) rfl <| .g (fun _ τ => ⟨_, .store (.no rfl) rfl t98 rfl rfl rfl rfl rfl rfl rfl rfl rfl τ⟩) <| .z <| .ret ?_
  have e8 : (b.live) = ((Env.joinW f e b).live) := by simp [Env.joinW, c0]
  have e9 : (b.ints) = ((Env.joinW f e b).ints) := by simp [Env.joinW, c0]
  have e10 : (b.arrs) = ((Env.joinW f e b).arrs) := by simp [Env.joinW, c0]
  have hc11 := eq1 (fun z1 => some (k5 + 1 + 1, k7 + 1 + 1, O.box [.d (.v (.bool (z1))), .ref [12, 1] (k7 + 1), .ref [12, 2] (k7 + 1)])) e8
  exact fin1 (.inr rfl) [] [([12, 1], (k7 + 1, k7 + 1, .row 119 2 (List.map Iv.c ((Env.joinW f e b).ints)))), ([12, 2], (k7 + 1, k7 + 1, .row 119 2 (List.map Iv.c ((Env.joinW f e b).arrs))))] (.cell (cells := [.d (.v (.bool ((Env.joinW f e b).live))), .ref [12, 1] (k7 + 1), .ref [12, 2] (k7 + 1)]) rfl hc11 t98 rfl rfl .nil) (.dd (.cons (.ref (.head _)) (.cons (.ref (.tail _ (.head _))) .nil))) rfl rfl (.cons (rowE (congrArg (List.map Iv.c) e9)) (.cons (rowE (congrArg (List.map Iv.c) e10)) .nil))
 ·have c0 := (nF id) c0
  refine .seq <| .rs fun k12 => .fp t98 t4 rfl <| .ld t4 rfl (.ptr _ _ _ _ _ rfl) rfl <| .un rfl <| .as rfl <| .z ?_
  refine .cond (t := !b.live) rfl (fun c1 => ?_) (fun c1 => ?_)
  ·have c1 := (nT id) c1
   refine .seq <| .rs fun k13 => .lda t98 rfl (.ptr _ _ _ _ _ rfl) rfl <| .c0 (c_own e (by first | omega | (have hj9 := hj c0 c1; omega))) rfl (.dd (.dd (.dd .nil))) (.own [18, 0] (.own [18, 1] (.own [18, 2] .nil))) rfl <| .g (fun _ τ => ⟨_, .store (.no rfl) rfl t98 rfl rfl rfl rfl rfl rfl rfl rfl rfl τ⟩) <| .z <| .ret ?_
   have e14 : (e.live) = ((Env.joinW f e b).live) := by simp [Env.joinW, c0, c1]
   have e15 : (e.ints) = ((Env.joinW f e b).ints) := by simp [Env.joinW, c0, c1]
   have e16 : (e.arrs) = ((Env.joinW f e b).arrs) := by simp [Env.joinW, c0, c1]
   have hc17 := eq1 (fun z1 => some (k5 + 1 + 1, k13 + 1 + 1, O.box [.d (.v (.bool (z1))), .ref [18, 1] (k13 + 1), .ref [18, 2] (k13 + 1)])) e14
   exact fin1 (.inr rfl) [] [([18, 1], (k13 + 1, k13 + 1, .row 119 2 (List.map Iv.c ((Env.joinW f e b).ints)))), ([18, 2], (k13 + 1, k13 + 1, .row 119 2 (List.map Iv.c ((Env.joinW f e b).arrs))))] (.cell (cells := [.d (.v (.bool ((Env.joinW f e b).live))), .ref [18, 1] (k13 + 1), .ref [18, 2] (k13 + 1)]) rfl hc17 t98 rfl rfl .nil) (.dd (.cons (.ref (.head _)) (.cons (.ref (.tail _ (.head _))) .nil))) rfl rfl (.cons (rowE (congrArg (List.map Iv.c) e15)) (.cons (rowE (congrArg (List.map Iv.c) e16)) .nil))
  ·have c1 := (nF id) c1
   refine .skip <| .seq ?_
   refine .regD (X := Nat × Nat × Nat) (by kernel_rfl) (fun ζ => .of [(6, .one (.ptr [6] (k5 + 1 + 1) 0))] [([6], (k5 + 1 + 1, ζ.1, .box [.d (.v (.bool (true))), .ref [24, 0] (ζ.2.1), .ref [30, 0] (ζ.2.2)])), ([24, 0], (ζ.2.1, ζ.2.1, .row 119 2 (List.map Iv.c (zip2 f e.ints b.ints)))), ([30, 0], (ζ.2.2, ζ.2.2, .row 119 2 (List.map Iv.c (zip2 f e.arrs b.arrs))))]) [⟨[3], some 19, [], []⟩, ⟨[19], some 20, [[3]], []⟩, ⟨[4], some 21, [], []⟩, ⟨[21], some 22, [[4]], []⟩, ⟨[2], some 23, [], []⟩, ⟨[20, 22, 23], some 24, [], [[24, 0]]⟩, ⟨[3], some 25, [], []⟩, ⟨[25], some 26, [[3]], []⟩, ⟨[4], some 27, [], []⟩, ⟨[27], some 28, [[4]], []⟩, ⟨[2], some 29, [], []⟩, ⟨[26, 28, 29], some 30, [], [[30, 0]]⟩, ⟨[24, 30], some 31, [], []⟩, ⟨[6, 31], none, [[6]], [[6]]⟩] (by kernel_rfl) (fun k18 => ?_) ?_
   ·skip
    refine .fieldAddrP (.no rfl) rfl t98 rfl rfl t96 rfl rfl rfl rfl <| .load (.no rfl) rfl t96 rfl rfl (.ptr _ _ _ _ _ rfl) rfl rfl rfl rfl <| .fieldAddrP (.no rfl) rfl t98 rfl rfl t96 rfl rfl rfl rfl <| .load (.no rfl) rfl t96 rfl rfl (.ptr _ _ _ _ _ rfl) rfl rfl rfl rfl <| .move (.no rfl) rfl rfl rfl rfl <| .call (.no rfl) rfl [] [] (c_joined e.ints b.ints F_f first_f caps_f f h_f (by first | omega | (have hj9 := hj c0 c1; omega))) rfl rfl rfl rfl rfl (.dd (.dd (.dd .nil))) rfl rfl (fun h => absurd rfl h) (.own [24, 0] .nil) (.nil) rfl rfl rfl (by simp) rfl rfl rfl <| .fieldAddrP (.no rfl) rfl t98 rfl rfl t96 rfl rfl rfl rfl <| .load (.no rfl) rfl t96 rfl rfl (.ptr _ _ _ _ _ rfl) rfl rfl rfl rfl <| .fieldAddrP (.no rfl) rfl t98 rfl rfl t96 rfl rfl rfl rfl ?_
    refine .load (.no rfl) rfl t96 rfl rfl (.ptr _ _ _ _ _ rfl) rfl rfl rfl rfl <| .move (.no rfl) rfl rfl rfl rfl <| .call (.no rfl) rfl [] [] (c_joined e.arrs b.arrs F_f first_f caps_f f h_f (by first | omega | (have hj9 := hj c0 c1; omega))) rfl rfl rfl rfl rfl (.dd (.dd (.dd .nil))) rfl rfl (fun h => absurd rfl h) (.own [30, 0] .nil) (.nil) rfl rfl rfl (by simp) rfl rfl rfl <| .build (.no rfl) rfl z98 rfl p98 rfl rfl rfl rfl <| .store (.no rfl) rfl t98 rfl rfl rfl rfl rfl rfl rfl rfl rfl ?_
    exact .fin (k18 + 1 + 1 + 1 + 1 + 1 + 1 + 1 + 1 + 1 + 1 + 1 + 1 + 1, k18 + 1 + 1 + 1 + 1 + 1, k18 + 1 + 1 + 1 + 1 + 1 + 1 + 1 + 1 + 1 + 1 + 1) (.of (.r rfl) (.r rfl))
   rintro ⟨g19, g20, g21⟩
   refine .ret ?_
   have e22 : (true) = ((Env.joinW f e b).live) := by simp [Env.joinW, c0, c1]
   have e23 : (zip2 f e.ints b.ints) = ((Env.joinW f e b).ints) := by simp [Env.joinW, c0, c1]
   have e24 : (zip2 f e.arrs b.arrs) = ((Env.joinW f e b).arrs) := by simp [Env.joinW, c0, c1]
   have hc25 := eq1 (fun z1 => some (k5 + 1 + 1, g19, O.box [.d (.v (.bool (z1))), .ref [24, 0] (g20), .ref [30, 0] (g21)])) e22
   exact fin1 (.inr rfl) [] [([24, 0], (g20, g20, .row 119 2 (List.map Iv.c ((Env.joinW f e b).ints)))), ([30, 0], (g21, g21, .row 119 2 (List.map Iv.c ((Env.joinW f e b).arrs))))] (.cell (cells := [.d (.v (.bool ((Env.joinW f e b).live))), .ref [24, 0] (g20), .ref [30, 0] (g21)]) rfl hc25 t98 rfl rfl .nil) (.dd (.cons (.ref (.head _)) (.cons (.ref (.tail _ (.head _))) .nil))) rfl rfl (.cons (rowE (congrArg (List.map Iv.c) e23)) (.cons (rowE (congrArg (List.map Iv.c) e24)) .nil))
theorem c_areIvs (a : Iv) (b : Iv) : Trip Tryz.prog 100 [(true, 2), (true, 2)] (Iv.c a ++ Iv.c b) [(false, 1)] [.v (.bool (Iv.ok a && Iv.ok b))] [] := by
 refine Trip.of Tryz.func100 (by decide) (c := _) rfl rfl (Nat.le_of_ble_eq_true rfl) rfl (AftOk.nil _) <| .seq <| .rs fun k1 => .g (fun _ τ => ⟨_, .box (.no rfl) rfl rfl rfl rfl rfl τ⟩) <| .g (fun _ τ => ⟨_, .box (.no rfl) rfl rfl rfl rfl rfl τ⟩) <| .as rfl <| .z <| .seq ?_
 refine .reg (X := Unit) (fun ζ => .of [(4, .one (.d (.v (.bool ((Iv.ok a && Iv.ok b))))))] []) [⟨[2], some 5, [[2]], []⟩, ⟨[5], some 6, [], []⟩, ⟨[6], some 7, [], []⟩, ⟨[7, 3], some 8, [[3]], []⟩, ⟨[7, 8], some 9, [], []⟩, ⟨[7, 9], some 10, [], []⟩, ⟨[10], some 4, [], []⟩] (fun k2 => ?_) ?_
 ·skip
  refine .load (.no rfl) rfl t119 rfl rfl (.ptr _ _ _ _ _ rfl) rfl rfl rfl rfl <| .call (.no rfl) rfl [] [] (c_IvOk a) rfl rfl rfl rfl rfl (.dd (.dd .nil)) rfl rfl (fun h => absurd rfl h) (.own [6, 0] .nil) (.nil) rfl rfl rfl (by simp) rfl rfl rfl <| .moveB (.no rfl) rfl rfl rfl rfl fun b3 g1_2 => ?_
  cases b3
  ·skip
   refine .off rfl rfl rfl rfl rfl rfl rfl <| .off rfl rfl rfl rfl rfl rfl rfl <| .pick (.no rfl) rfl rfl rfl rfl rfl <| .assign (.no rfl) rfl rfl rfl rfl ?_
   exact .fin () (.of (.cons (svB (show (false) = ((Iv.ok a && Iv.ok b)) by first | (simp only [g1_2, Bool.true_or, Bool.false_or, Bool.true_and, Bool.false_and, Bool.not_true, Bool.not_false]; done) | (simp [g1_2]; done) | (exfalso; simp_all; done))) .nil) .nil)
  ·skip
   refine .load (.on rfl rfl rfl rfl rfl) rfl t119 rfl rfl (.ptr _ _ _ _ _ rfl) rfl rfl rfl rfl <| .call (.on rfl rfl rfl rfl rfl) rfl [] [] (c_IvOk b) rfl rfl rfl rfl rfl (.dd (.dd .nil)) rfl rfl (fun h => absurd rfl h) (.own [9, 0] .nil) (.nil) rfl rfl rfl (by simp) rfl rfl rfl <| .pick (.no rfl) rfl rfl rfl rfl rfl <| .assign (.no rfl) rfl rfl rfl rfl ?_
   exact .fin () (.of (.cons (svB (show (Iv.ok b) = ((Iv.ok a && Iv.ok b)) by first | (simp only [g1_2, Bool.true_or, Bool.false_or, Bool.true_and, Bool.false_and, Bool.not_true, Bool.not_false]; done) | (simp [g1_2]; done) | (exfalso; simp_all; done))) .nil) .nil)
 intro _
 refine .ret ?_
 exact fin0 (.inr rfl) (.one (svB (show ((Iv.ok a && Iv.ok b)) = (Iv.ok a && Iv.ok b) by rfl)) .nil) (.dd .nil) rfl
end Go.Proofs

namespace Go.Proofs
open Go Go.Proofs Go.Ev

theorem c_sIvWiden (a : Iv) (b : Iv) (l : List Int) : Trip Tryz.prog 213 [(true, 2), (true, 2), (false, 1)] (Iv.c a ++ Iv.c b ++ [.sl false 2 1 (List.map i64c (l))]) [(true, 2)] [.v (.int .i64 ((Iv.widenOk l a b).lo)), .v (.int .i64 ((Iv.widenOk l a b).hi))] [] := by
 refine Trip.of Tryz.func213 (by decide) (c := _) rfl rfl (Nat.le_of_ble_eq_true rfl) rfl (AftOk.nil _) <| .sl (t := 2) rfl fun hs1l => .seq <| .rs fun k2 => .g (fun _ τ => ⟨_, .box (.no rfl) rfl rfl rfl rfl rfl τ⟩) <| .g (fun _ τ => ⟨_, .box (.no rfl) rfl rfl rfl rfl rfl τ⟩) <| .g (fun _ τ => ⟨_, .alloc (.no rfl) rfl z119 rfl rfl rfl τ⟩) <| .z <| .seq ?_
 refine .seq ?_
 refine .reg (X := Unit) (fun ζ => .of [(2, .one (.d (.sl false 2 1 (List.map i64c (l))))), (3, .one (.ptr [3] (k2) 0)), (4, .one (.ptr [4] (k2 + 1) 0)), (6, .one (.ptr [6] (k2 + 1 + 1) 0)), (22, .one (.d (.v (.bool (((!(Iv.ok a) || !(Iv.ok b)) || decide ((l.length : Int) > 100)))))))] [([3], (k2, k2, .box [.d (.v (.int .i64 (a.lo))), .d (.v (.int .i64 (a.hi)))])), ([4], (k2 + 1, k2 + 1, .box [.d (.v (.int .i64 (b.lo))), .d (.v (.int .i64 (b.hi)))])), ([6], (k2 + 1 + 1, k2 + 1 + 1, .box [.d (.v (.int .i64 (0))), .d (.v (.int .i64 (0)))]))]) [⟨[3], some 10, [[3]], []⟩, ⟨[10], some 11, [], []⟩, ⟨[11], some 12, [], []⟩, ⟨[12], some 13, [], []⟩, ⟨[13, 4], some 14, [[4]], []⟩, ⟨[13, 14], some 15, [], []⟩, ⟨[13, 15], some 16, [], []⟩, ⟨[13, 16], some 17, [], []⟩, ⟨[17], some 18, [], []⟩, ⟨[18, 2], some 19, [], []⟩, ⟨[18, 19], some 20, [], []⟩, ⟨[18, 20], some 21, [], []⟩, ⟨[18, 21], some 22, [], []⟩] (fun k3 => ?_) ?_
 ·skip
  refine .load (.no rfl) rfl t119 rfl rfl (.ptr _ _ _ _ _ rfl) rfl rfl rfl rfl <| .call (.no rfl) rfl [] [] (c_sIvOk a) rfl rfl rfl rfl rfl (.dd (.dd .nil)) rfl rfl (fun h => absurd rfl h) (.own [11, 0] .nil) (.nil) rfl rfl rfl (by simp) rfl rfl rfl <| .un (.no rfl) rfl rfl rfl rfl rfl <| .moveB (.no rfl) rfl rfl rfl rfl fun b4 g1_3 => ?_
  cases b4
  ·skip
   refine .load (.on rfl rfl rfl rfl rfl) rfl t119 rfl rfl (.ptr _ _ _ _ _ rfl) rfl rfl rfl rfl <| .call (.on rfl rfl rfl rfl rfl) rfl [] [] (c_sIvOk b) rfl rfl rfl rfl rfl (.dd (.dd .nil)) rfl rfl (fun h => absurd rfl h) (.own [15, 0] .nil) (.nil) rfl rfl rfl (by simp) rfl rfl rfl <| .un (.on rfl rfl rfl rfl rfl) rfl rfl rfl rfl rfl <| .pick (.no rfl) rfl rfl rfl rfl rfl <| .moveB (.no rfl) rfl rfl rfl rfl fun b5 g1_8 => ?_
   cases b5
   ·skip
    refine .move (.on rfl rfl rfl rfl rfl) rfl rfl rfl rfl <| .len (.on rfl rfl rfl rfl rfl) rfl (z := (l.length : Int)) t41 rfl rfl rfl (.d _ _) (map_len _ _) rfl <| .bin (.on rfl rfl rfl rfl rfl) rfl rfl rfl rfl rfl rfl <| .pick (.no rfl) rfl rfl rfl rfl rfl ?_
    exact .fin () (.of (.cons rfl (.cons rfl (.cons rfl (.cons rfl (.cons (svB (show (decide ((l.length : Int) > 100)) = (((!(Iv.ok a) || !(Iv.ok b)) || decide ((l.length : Int) > 100))) by first | (simp only [g1_3, g1_8, Bool.true_or, Bool.false_or, Bool.true_and, Bool.false_and, Bool.not_true, Bool.not_false]; done) | (simp [g1_3, g1_8]; done) | (exfalso; simp_all; done))) .nil))))) (.r rfl))
   ·skip
    refine .off rfl rfl rfl rfl rfl rfl rfl <| .off rfl rfl rfl rfl rfl rfl rfl <| .off rfl rfl rfl rfl rfl rfl rfl <| .pick (.no rfl) rfl rfl rfl rfl rfl ?_
    exact .fin () (.of (.cons rfl (.cons rfl (.cons rfl (.cons rfl (.cons (svB (show (true) = (((!(Iv.ok a) || !(Iv.ok b)) || decide ((l.length : Int) > 100))) by first | (simp only [g1_3, g1_8, Bool.true_or, Bool.false_or, Bool.true_and, Bool.false_and, Bool.not_true, Bool.not_false]; done) | (simp [g1_3, g1_8]; done) | (exfalso; simp_all; done))) .nil))))) (.r rfl))
  ·skip
   refine .off rfl rfl rfl rfl rfl rfl rfl <| .off rfl rfl rfl rfl rfl rfl rfl <| .off rfl rfl rfl rfl rfl rfl rfl <| .pick (.no rfl) rfl rfl rfl rfl rfl <| .move (.no rfl) rfl rfl rfl rfl <| .off rfl rfl rfl rfl rfl rfl rfl <| .off rfl rfl rfl rfl rfl rfl rfl <| .off rfl rfl rfl rfl rfl rfl rfl <| .pick (.no rfl) rfl rfl rfl rfl rfl ?_
   exact .fin () (.of (.cons rfl (.cons rfl (.cons rfl (.cons rfl (.cons (svB (show (true) = (((!(Iv.ok a) || !(Iv.ok b)) || decide ((l.length : Int) > 100))) by first | (simp only [g1_3, Bool.true_or, Bool.false_or, Bool.true_and, Bool.false_and, Bool.not_true, Bool.not_false]; done) | (simp [g1_3]; done) | (exfalso; simp_all; done))) .nil))))) (.r rfl))
 intro _
 refine .cond (t := ((!(Iv.ok a) || !(Iv.ok b)) || decide ((l.length : Int) > 100))) rfl (fun c0 => ?_) (fun c0 => ?_)
 ·have c0 := (oT (oT (nT id) (nT id)) dT) c0
  refine .seq <| .rs fun k6 => .g (fun _ τ => ⟨_, .build (.no rfl) rfl z119 rfl p119 rfl rfl rfl rfl τ⟩) <| .g (fun _ τ => ⟨_, .store (.no rfl) rfl t119 rfl rfl rfl rfl rfl rfl rfl rfl rfl τ⟩) <| .z <| .ret ?_
  have e7 : (0) = ((Iv.widenOk l a b).lo) := by (rw [Iv.widenOk_no c0])
  have e8 : (0) = ((Iv.widenOk l a b).hi) := by (rw [Iv.widenOk_no c0])
  have hc9 := eq2 (fun z1 z2 => some (k2 + 1 + 1, k6 + 1, O.box [.d (.v (.int .i64 (z1))), .d (.v (.int .i64 (z2)))])) e7 e8
  exact fin0 (.inr rfl) (.cell (cells := [.d (.v (.int .i64 ((Iv.widenOk l a b).lo))), .d (.v (.int .i64 ((Iv.widenOk l a b).hi)))]) rfl hc9 t119 rfl rfl .nil) (.dd (.dd .nil)) rfl
 ·have c0 := (oF (oF (nF id) (nF id)) dF) c0
  refine .skip <| .seq <| .rs fun k10 => .lda t119 rfl (.ptr _ _ _ _ _ rfl) rfl <| .g (fun _ τ => ⟨_, .alloc (.no rfl) rfl z119 rfl rfl rfl τ⟩) <| .g (fun _ τ => ⟨_, .store (.no rfl) rfl t119 rfl rfl rfl rfl rfl rfl rfl rfl rfl τ⟩) <| .z <| .seq <| .seq ?_
  refine .rs fun k11 => .fp t119 t2 rfl <| .ld t2 rfl (.ptr _ _ _ _ _ rfl) rfl <| .fp t119 t2 rfl <| .ld t2 rfl (.ptr _ _ _ _ _ rfl) rfl <| .bi rfl <| .z ?_
  refine .cond (t := decide (b.lo < a.lo)) rfl (fun c1 => ?_) (fun c1 => ?_)
  ·have c1 := of_decide_eq_true c1
   refine .seq <| .rs fun k12 => .fp t119 t2 rfl <| .g (fun _ τ => ⟨_, .store (.no rfl) rfl t2 rfl rfl rfl rfl rfl rfl rfl rfl rfl τ⟩) <| .z <| .seq <| .rs fun k13 => .as rfl <| .z ?_
   refine .block ?_
   refine .loop (X := Nat × Nat) (fun ζ => .of [(2, .one (.d (.sl false 2 1 (List.map i64c (l))))), (3, .one (.ptr [3] (k2) 0)), (4, .one (.ptr [4] (k2 + 1) 0)), (6, .one (.ptr [6] (k2 + 1 + 1) 0)), (7, .one (.ptr [7] (k10 + 1) 0)), (8, .one (.d (.v (.int .i64 ((ζ.1 : Int))))))] [([3], (k2, k2, .box [.d (.v (.int .i64 (a.lo))), .d (.v (.int .i64 (a.hi)))])), ([4], (k2 + 1, k2 + 1, .box [.d (.v (.int .i64 (b.lo))), .d (.v (.int .i64 (b.hi)))])), ([6], (k2 + 1 + 1, k2 + 1 + 1, .box [.d (.v (.int .i64 (0))), .d (.v (.int .i64 (0)))])), ([7], (k10 + 1, ζ.2, .box [.d (.v (.int .i64 (widenLo b.lo (l.take ζ.1) (-9223372036854775808)))), .d (.v (.int .i64 (a.hi)))]))]) (fun ζ => ζ.1 ≤ l.length) (fun ζ => l.length - ζ.1) ?_ ?_
   ·skip
    exact .here (0, (k12 + 1)) (.of (.cons rfl (.cons rfl (.cons rfl (.cons rfl (.cons rfl (.cons (svI (show (0) = ((0 : Int)) by first | rfl | omega | exact wrap_le (by omega) (by omega) | (rw [wrap_le (by omega) (by omega)]; omega))) .nil)))))) (.cons rfl (.cons rfl (.cons rfl (.cons (eq1 (fun z1 => some (k10 + 1, k12 + 1, O.box [.d (.v (.int .i64 (z1))), .d (.v (.int .i64 (a.hi)))])) (show (-9223372036854775808) = (widenLo b.lo (l.take 0) (-9223372036854775808)) by first | rfl | (exact widenLo_yes (by omega) c3) | (exact widenLo_no (by omega) c3) | (exact widenHi_yes (by omega) c6) | (exact widenHi_no (by omega) c6))) .nil))))) (show 0 ≤ l.length by omega)
   ·rintro ⟨j, q14⟩ hI
    have hI : j ≤ l.length := hI
    have hl9 : l.length ≤ 100 := by omega
    dsimp only
    refine .seq <| .seq <| .rs fun k15 => .mv rfl <| .mv rfl <| .g (fun _ τ => ⟨_, .len (.no rfl) rfl (z := (l.length : Int)) t41 rfl rfl rfl (.d _ _) (map_len _ _) rfl τ⟩) <| .bi rfl <| .z ?_
    refine .cond (t := decide ((j : Int) < (l.length : Int))) rfl (fun c2 => ?_) (fun c2 => ?_)
    ·have c2 := of_decide_eq_true c2
     refine .skip <| .seq <| .block <| .seq ?_
     refine .regD (X := Unit) (by kernel_rfl) (fun ζ => .of [(2, .one (.d (.sl false 2 1 (List.map i64c (l))))), (3, .one (.ptr [3] (k2) 0)), (4, .one (.ptr [4] (k2 + 1) 0)), (6, .one (.ptr [6] (k2 + 1 + 1) 0)), (7, .one (.ptr [7] (k10 + 1) 0)), (8, .one (.d (.v (.int .i64 ((j : Int)))))), (43, .one (.d (.v (.bool (decide ((l.getD j default) ≤ b.lo))))))] [([3], (k2, k2, .box [.d (.v (.int .i64 (a.lo))), .d (.v (.int .i64 (a.hi)))])), ([4], (k2 + 1, k2 + 1, .box [.d (.v (.int .i64 (b.lo))), .d (.v (.int .i64 (b.hi)))])), ([6], (k2 + 1 + 1, k2 + 1 + 1, .box [.d (.v (.int .i64 (0))), .d (.v (.int .i64 (0)))])), ([7], (k10 + 1, q14, .box [.d (.v (.int .i64 (widenLo b.lo (l.take j) (-9223372036854775808)))), .d (.v (.int .i64 (a.hi)))]))]) [⟨[2], some 37, [], []⟩, ⟨[8], some 38, [], []⟩, ⟨[37, 38], some 39, [], []⟩, ⟨[39], some 40, [], []⟩, ⟨[4], some 41, [], []⟩, ⟨[41], some 42, [[4]], []⟩, ⟨[40, 42], some 43, [], []⟩] (by kernel_rfl) (fun k16 => ?_) ?_
     ·skip
      refine .move (.no rfl) rfl rfl rfl rfl <| .move (.no rfl) rfl rfl rfl rfl <| .indexAddr (.no rfl) rfl (j) t41 rfl t2 rfl rfl rfl (.d _ _) rfl rfl rfl (map_get (by omega)) rfl rfl <| .load (.no rfl) rfl t2 rfl rfl (.d _) rfl rfl rfl rfl <| .fieldAddrP (.no rfl) rfl t119 rfl rfl t2 rfl rfl rfl rfl <| .load (.no rfl) rfl t2 rfl rfl (.ptr _ _ _ _ _ rfl) rfl rfl rfl rfl <| .bin (.no rfl) rfl rfl rfl rfl rfl rfl ?_
      exact .fin () (.of (.r rfl) (.r rfl))
     intro _
     refine .cond (t := decide ((l.getD j default) ≤ b.lo)) rfl (fun c3 => ?_) (fun c3 => ?_)
     ·have c3 := of_decide_eq_true c3
      refine .regD (X := Nat) (by kernel_rfl) (fun ζ => .of [(2, .one (.d (.sl false 2 1 (List.map i64c (l))))), (3, .one (.ptr [3] (k2) 0)), (4, .one (.ptr [4] (k2 + 1) 0)), (6, .one (.ptr [6] (k2 + 1 + 1) 0)), (7, .one (.ptr [7] (k10 + 1) 0)), (8, .one (.d (.v (.int .i64 ((j : Int))))))] [([3], (k2, k2, .box [.d (.v (.int .i64 (a.lo))), .d (.v (.int .i64 (a.hi)))])), ([4], (k2 + 1, k2 + 1, .box [.d (.v (.int .i64 (b.lo))), .d (.v (.int .i64 (b.hi)))])), ([6], (k2 + 1 + 1, k2 + 1 + 1, .box [.d (.v (.int .i64 (0))), .d (.v (.int .i64 (0)))])), ([7], (k10 + 1, ζ, .box [.d (.v (.int .i64 (max (widenLo b.lo (l.take j) (-9223372036854775808)) (l.getD j default)))), .d (.v (.int .i64 (a.hi)))]))]) [⟨[7], some 44, [], []⟩, ⟨[44], some 45, [[7]], []⟩, ⟨[2], some 46, [], []⟩, ⟨[8], some 47, [], []⟩, ⟨[46, 47], some 48, [], []⟩, ⟨[48], some 49, [], []⟩, ⟨[45, 49], some 50, [], []⟩, ⟨[7], some 51, [], []⟩, ⟨[51, 50], none, [[7]], [[7]]⟩] (by kernel_rfl) (fun k17 => ?_) ?_
      ·skip
       refine .fieldAddrP (.no rfl) rfl t119 rfl rfl t2 rfl rfl rfl rfl <| .load (.no rfl) rfl t2 rfl rfl (.ptr _ _ _ _ _ rfl) rfl rfl rfl rfl <| .move (.no rfl) rfl rfl rfl rfl <| .move (.no rfl) rfl rfl rfl rfl <| .indexAddr (.no rfl) rfl (j) t41 rfl t2 rfl rfl rfl (.d _ _) rfl rfl rfl (map_get (by omega)) rfl rfl <| .load (.no rfl) rfl t2 rfl rfl (.d _) rfl rfl rfl rfl <| .max (.no rfl) rfl rfl rfl rfl (max_of _ _) rfl <| .fieldAddrP (.no rfl) rfl t119 rfl rfl t2 rfl rfl rfl rfl <| .store (.no rfl) rfl t2 rfl rfl rfl rfl rfl rfl rfl rfl rfl ?_
       exact .fin (k17 + 1 + 1 + 1 + 1 + 1 + 1 + 1 + 1) (.of (.r rfl) (.r rfl))
      intro g18
      refine .rs fun k19 => .mv rfl <| .bi rfl <| .as rfl <| .z ?_
      exact .here ((j + 1), g18) (.of (.cons rfl (.cons rfl (.cons rfl (.cons rfl (.cons rfl (.cons (svI (show (IntKind.wrap .i64 ((j : Int) + 1)) = (((j + 1) : Int)) by first | rfl | omega | exact wrap_le (by omega) (by omega) | (rw [wrap_le (by omega) (by omega)]; omega))) .nil)))))) (.cons rfl (.cons rfl (.cons rfl (.cons (eq1 (fun z1 => some (k10 + 1, g18, O.box [.d (.v (.int .i64 (z1))), .d (.v (.int .i64 (a.hi)))])) (show (max (widenLo b.lo (l.take j) (-9223372036854775808)) (l.getD j default)) = (widenLo b.lo (l.take (j + 1)) (-9223372036854775808)) by first | rfl | (exact widenLo_yes (by omega) c3) | (exact widenLo_no (by omega) c3) | (exact widenHi_yes (by omega) c6) | (exact widenHi_no (by omega) c6))) .nil))))) ⟨(show (j + 1) ≤ l.length by omega), (show l.length - (j + 1) < l.length - j by omega)⟩
     ·have c3 := of_decide_eq_false c3
      refine .skip <| .rs fun k20 => .mv rfl <| .bi rfl <| .as rfl <| .z ?_
      exact .here ((j + 1), q14) (.of (.cons rfl (.cons rfl (.cons rfl (.cons rfl (.cons rfl (.cons (svI (show (IntKind.wrap .i64 ((j : Int) + 1)) = (((j + 1) : Int)) by first | rfl | omega | exact wrap_le (by omega) (by omega) | (rw [wrap_le (by omega) (by omega)]; omega))) .nil)))))) (.cons rfl (.cons rfl (.cons rfl (.cons (eq1 (fun z1 => some (k10 + 1, q14, O.box [.d (.v (.int .i64 (z1))), .d (.v (.int .i64 (a.hi)))])) (show (widenLo b.lo (l.take j) (-9223372036854775808)) = (widenLo b.lo (l.take (j + 1)) (-9223372036854775808)) by first | rfl | (exact widenLo_yes (by omega) c3) | (exact widenLo_no (by omega) c3) | (exact widenHi_yes (by omega) c6) | (exact widenHi_no (by omega) c6))) .nil))))) ⟨(show (j + 1) ≤ l.length by omega), (show l.length - (j + 1) < l.length - j by omega)⟩
    ·have c2 := of_decide_eq_false c2
     refine .exit <| .seq <| .seq <| .rs fun k21 => .fp t119 t2 rfl <| .ld t2 rfl (.ptr _ _ _ _ _ rfl) rfl <| .fp t119 t2 rfl <| .ld t2 rfl (.ptr _ _ _ _ _ rfl) rfl <| .bi rfl ?_
     refine .z ?_
     refine .cond (t := decide (b.hi > a.hi)) rfl (fun c4 => ?_) (fun c4 => ?_)
     ·have c4 := of_decide_eq_true c4
      refine .seq <| .rs fun k22 => .fp t119 t2 rfl <| .g (fun _ τ => ⟨_, .store (.no rfl) rfl t2 rfl rfl rfl rfl rfl rfl rfl rfl rfl τ⟩) <| .z <| .seq <| .rs fun k23 => .as rfl <| .z ?_
      refine .block ?_
      refine .loop (X := Nat × Nat) (fun ζ => .of [(2, .one (.d (.sl false 2 1 (List.map i64c (l))))), (4, .one (.ptr [4] (k2 + 1) 0)), (6, .one (.ptr [6] (k2 + 1 + 1) 0)), (7, .one (.ptr [7] (k10 + 1) 0)), (9, .one (.d (.v (.int .i64 ((ζ.1 : Int))))))] [([4], (k2 + 1, k2 + 1, .box [.d (.v (.int .i64 (b.lo))), .d (.v (.int .i64 (b.hi)))])), ([6], (k2 + 1 + 1, k2 + 1 + 1, .box [.d (.v (.int .i64 (0))), .d (.v (.int .i64 (0)))])), ([7], (k10 + 1, ζ.2, .box [.d (.v (.int .i64 (widenLo b.lo (l.take j) (-9223372036854775808)))), .d (.v (.int .i64 (widenHi b.hi (l.take ζ.1) 9223372036854775807)))]))]) (fun ζ => ζ.1 ≤ l.length) (fun ζ => l.length - ζ.1) ?_ ?_
      ·skip
       exact .here (0, (k22 + 1)) (.of (.cons rfl (.cons rfl (.cons rfl (.cons rfl (.cons (svI (show (0) = ((0 : Int)) by first | rfl | omega | exact wrap_le (by omega) (by omega) | (rw [wrap_le (by omega) (by omega)]; omega))) .nil))))) (.cons rfl (.cons rfl (.cons (eq1 (fun z1 => some (k10 + 1, k22 + 1, O.box [.d (.v (.int .i64 (widenLo b.lo (l.take j) (-9223372036854775808)))), .d (.v (.int .i64 (z1)))])) (show (9223372036854775807) = (widenHi b.hi (l.take 0) 9223372036854775807) by first | rfl | (exact widenLo_yes (by omega) c3) | (exact widenLo_no (by omega) c3) | (exact widenHi_yes (by omega) c6) | (exact widenHi_no (by omega) c6))) .nil)))) (show 0 ≤ l.length by omega)
      ·rintro ⟨i, q24⟩ hI
       have hI : i ≤ l.length := hI
       have hl9 : l.length ≤ 100 := by omega
       have hj9 := ‹j ≤ l.length›
       dsimp only
       refine .seq <| .seq <| .rs fun k25 => .mv rfl <| .mv rfl <| .g (fun _ τ => ⟨_, .len (.no rfl) rfl (z := (l.length : Int)) t41 rfl rfl rfl (.d _ _) (map_len _ _) rfl τ⟩) <| .bi rfl <| .z ?_
       refine .cond (t := decide ((i : Int) < (l.length : Int))) rfl (fun c5 => ?_) (fun c5 => ?_)
       ·have c5 := of_decide_eq_true c5
        refine .skip <| .seq <| .block <| .seq ?_
        refine .regD (X := Unit) (by kernel_rfl) (fun ζ => .of [(2, .one (.d (.sl false 2 1 (List.map i64c (l))))), (4, .one (.ptr [4] (k2 + 1) 0)), (6, .one (.ptr [6] (k2 + 1 + 1) 0)), (7, .one (.ptr [7] (k10 + 1) 0)), (9, .one (.d (.v (.int .i64 ((i : Int)))))), (70, .one (.d (.v (.bool (decide ((l.getD i default) ≥ b.hi))))))] [([4], (k2 + 1, k2 + 1, .box [.d (.v (.int .i64 (b.lo))), .d (.v (.int .i64 (b.hi)))])), ([6], (k2 + 1 + 1, k2 + 1 + 1, .box [.d (.v (.int .i64 (0))), .d (.v (.int .i64 (0)))])), ([7], (k10 + 1, q24, .box [.d (.v (.int .i64 (widenLo b.lo (l.take j) (-9223372036854775808)))), .d (.v (.int .i64 (widenHi b.hi (l.take i) 9223372036854775807)))]))]) [⟨[2], some 64, [], []⟩, ⟨[9], some 65, [], []⟩, ⟨[64, 65], some 66, [], []⟩, ⟨[66], some 67, [], []⟩, ⟨[4], some 68, [], []⟩, ⟨[68], some 69, [[4]], []⟩, ⟨[67, 69], some 70, [], []⟩] (by kernel_rfl) (fun k26 => ?_) ?_
        ·skip
         refine .move (.no rfl) rfl rfl rfl rfl <| .move (.no rfl) rfl rfl rfl rfl <| .indexAddr (.no rfl) rfl (i) t41 rfl t2 rfl rfl rfl (.d _ _) rfl rfl rfl (map_get (by omega)) rfl rfl <| .load (.no rfl) rfl t2 rfl rfl (.d _) rfl rfl rfl rfl <| .fieldAddrP (.no rfl) rfl t119 rfl rfl t2 rfl rfl rfl rfl <| .load (.no rfl) rfl t2 rfl rfl (.ptr _ _ _ _ _ rfl) rfl rfl rfl rfl <| .bin (.no rfl) rfl rfl rfl rfl rfl rfl ?_
         exact .fin () (.of (.r rfl) (.r rfl))
        intro _
        refine .cond (t := decide ((l.getD i default) ≥ b.hi)) rfl (fun c6 => ?_) (fun c6 => ?_)
        ·have c6 := of_decide_eq_true c6
         refine .regD (X := Nat) (by kernel_rfl) (fun ζ => .of [(2, .one (.d (.sl false 2 1 (List.map i64c (l))))), (4, .one (.ptr [4] (k2 + 1) 0)), (6, .one (.ptr [6] (k2 + 1 + 1) 0)), (7, .one (.ptr [7] (k10 + 1) 0)), (9, .one (.d (.v (.int .i64 ((i : Int))))))] [([4], (k2 + 1, k2 + 1, .box [.d (.v (.int .i64 (b.lo))), .d (.v (.int .i64 (b.hi)))])), ([6], (k2 + 1 + 1, k2 + 1 + 1, .box [.d (.v (.int .i64 (0))), .d (.v (.int .i64 (0)))])), ([7], (k10 + 1, ζ, .box [.d (.v (.int .i64 (widenLo b.lo (l.take j) (-9223372036854775808)))), .d (.v (.int .i64 (min (widenHi b.hi (l.take i) 9223372036854775807) (l.getD i default))))]))]) [⟨[7], some 71, [], []⟩, ⟨[71], some 72, [[7]], []⟩, ⟨[2], some 73, [], []⟩, ⟨[9], some 74, [], []⟩, ⟨[73, 74], some 75, [], []⟩, ⟨[75], some 76, [], []⟩, ⟨[72, 76], some 77, [], []⟩, ⟨[7], some 78, [], []⟩, ⟨[78, 77], none, [[7]], [[7]]⟩] (by kernel_rfl) (fun k27 => ?_) ?_
         ·skip
          refine .fieldAddrP (.no rfl) rfl t119 rfl rfl t2 rfl rfl rfl rfl <| .load (.no rfl) rfl t2 rfl rfl (.ptr _ _ _ _ _ rfl) rfl rfl rfl rfl <| .move (.no rfl) rfl rfl rfl rfl <| .move (.no rfl) rfl rfl rfl rfl <| .indexAddr (.no rfl) rfl (i) t41 rfl t2 rfl rfl rfl (.d _ _) rfl rfl rfl (map_get (by omega)) rfl rfl <| .load (.no rfl) rfl t2 rfl rfl (.d _) rfl rfl rfl rfl <| .min (.no rfl) rfl rfl rfl rfl (min_of _ _) rfl <| .fieldAddrP (.no rfl) rfl t119 rfl rfl t2 rfl rfl rfl rfl <| .store (.no rfl) rfl t2 rfl rfl rfl rfl rfl rfl rfl rfl rfl ?_
          exact .fin (k27 + 1 + 1 + 1 + 1 + 1 + 1 + 1 + 1) (.of (.r rfl) (.r rfl))
         intro g28
         refine .rs fun k29 => .mv rfl <| .bi rfl <| .as rfl <| .z ?_
         exact .here ((i + 1), g28) (.of (.cons rfl (.cons rfl (.cons rfl (.cons rfl (.cons (svI (show (IntKind.wrap .i64 ((i : Int) + 1)) = (((i + 1) : Int)) by first | rfl | omega | exact wrap_le (by omega) (by omega) | (rw [wrap_le (by omega) (by omega)]; omega))) .nil))))) (.cons rfl (.cons rfl (.cons (eq1 (fun z1 => some (k10 + 1, g28, O.box [.d (.v (.int .i64 (widenLo b.lo (l.take j) (-9223372036854775808)))), .d (.v (.int .i64 (z1)))])) (show (min (widenHi b.hi (l.take i) 9223372036854775807) (l.getD i default)) = (widenHi b.hi (l.take (i + 1)) 9223372036854775807) by first | rfl | (exact widenLo_yes (by omega) c3) | (exact widenLo_no (by omega) c3) | (exact widenHi_yes (by omega) c6) | (exact widenHi_no (by omega) c6))) .nil)))) ⟨(show (i + 1) ≤ l.length by omega), (show l.length - (i + 1) < l.length - i by omega)⟩
        ·have c6 := of_decide_eq_false c6
         refine .skip <| .rs fun k30 => .mv rfl <| .bi rfl <| .as rfl <| .z ?_
         exact .here ((i + 1), q24) (.of (.cons rfl (.cons rfl (.cons rfl (.cons rfl (.cons (svI (show (IntKind.wrap .i64 ((i : Int) + 1)) = (((i + 1) : Int)) by first | rfl | omega | exact wrap_le (by omega) (by omega) | (rw [wrap_le (by omega) (by omega)]; omega))) .nil))))) (.cons rfl (.cons rfl (.cons (eq1 (fun z1 => some (k10 + 1, q24, O.box [.d (.v (.int .i64 (widenLo b.lo (l.take j) (-9223372036854775808)))), .d (.v (.int .i64 (z1)))])) (show (widenHi b.hi (l.take i) 9223372036854775807) = (widenHi b.hi (l.take (i + 1)) 9223372036854775807) by first | rfl | (exact widenLo_yes (by omega) c3) | (exact widenLo_no (by omega) c3) | (exact widenHi_yes (by omega) c6) | (exact widenHi_no (by omega) c6))) .nil)))) ⟨(show (i + 1) ≤ l.length by omega), (show l.length - (i + 1) < l.length - i by omega)⟩
       ·have c5 := of_decide_eq_false c5
        refine .exit <| .seq <| .rs fun k31 => .lda t119 rfl (.ptr _ _ _ _ _ rfl) rfl <| .g (fun _ τ => ⟨_, .store (.no rfl) rfl t119 rfl rfl rfl rfl rfl rfl rfl rfl rfl τ⟩) <| .z <| .ret ?_
        have e32 : (widenLo b.lo (l.take j) (-9223372036854775808)) = ((Iv.widenOk l a b).lo) := by (rw [Iv.widenOk_yes c0]; simp only [Iv.widen]; first | (rw [List.take_of_length_le (by omega), if_pos c1]; done) | (rw [List.take_of_length_le (by omega), if_pos c4]; done))
        have e33 : (widenHi b.hi (l.take i) 9223372036854775807) = ((Iv.widenOk l a b).hi) := by (rw [Iv.widenOk_yes c0]; simp only [Iv.widen]; first | (rw [List.take_of_length_le (by omega), if_pos c1]; done) | (rw [List.take_of_length_le (by omega), if_pos c4]; done))
        have hc34 := eq2 (fun z1 z2 => some (k2 + 1 + 1, k31 + 1, O.box [.d (.v (.int .i64 (z1))), .d (.v (.int .i64 (z2)))])) e32 e33
        exact fin0 (.inr rfl) (.cell (cells := [.d (.v (.int .i64 ((Iv.widenOk l a b).lo))), .d (.v (.int .i64 ((Iv.widenOk l a b).hi)))]) rfl hc34 t119 rfl rfl .nil) (.dd (.dd .nil)) rfl
     ·have c4 := of_decide_eq_false c4
      refine .skip <| .seq <| .rs fun k35 => .lda t119 rfl (.ptr _ _ _ _ _ rfl) rfl <| .g (fun _ τ => ⟨_, .store (.no rfl) rfl t119 rfl rfl rfl rfl rfl rfl rfl rfl rfl τ⟩) <| .z <| .ret ?_
      have e36 : (widenLo b.lo (l.take j) (-9223372036854775808)) = ((Iv.widenOk l a b).lo) := by (rw [Iv.widenOk_yes c0]; simp only [Iv.widen]; first | (rw [List.take_of_length_le (by omega), if_pos c1]; done) | (rw [if_neg c4]; done))
      have e37 : (a.hi) = ((Iv.widenOk l a b).hi) := by (rw [Iv.widenOk_yes c0]; simp only [Iv.widen]; first | (rw [List.take_of_length_le (by omega), if_pos c1]; done) | (rw [if_neg c4]; done))
      have hc38 := eq2 (fun z1 z2 => some (k2 + 1 + 1, k35 + 1, O.box [.d (.v (.int .i64 (z1))), .d (.v (.int .i64 (z2)))])) e36 e37
      exact fin0 (.inr rfl) (.cell (cells := [.d (.v (.int .i64 ((Iv.widenOk l a b).lo))), .d (.v (.int .i64 ((Iv.widenOk l a b).hi)))]) rfl hc38 t119 rfl rfl .nil) (.dd (.dd .nil)) rfl
  ·have c1 := of_decide_eq_false c1
   refine .skip <| .seq <| .seq <| .rs fun k39 => .fp t119 t2 rfl <| .ld t2 rfl (.ptr _ _ _ _ _ rfl) rfl <| .fp t119 t2 rfl <| .ld t2 rfl (.ptr _ _ _ _ _ rfl) rfl <| .bi rfl ?_
   refine .z ?_
   refine .cond (t := decide (b.hi > a.hi)) rfl (fun c4 => ?_) (fun c4 => ?_)
   ·have c4 := of_decide_eq_true c4
    refine .seq <| .rs fun k40 => .fp t119 t2 rfl <| .g (fun _ τ => ⟨_, .store (.no rfl) rfl t2 rfl rfl rfl rfl rfl rfl rfl rfl rfl τ⟩) <| .z <| .seq <| .rs fun k41 => .as rfl <| .z ?_
    refine .block ?_
    refine .loop (X := Nat × Nat) (fun ζ => .of [(2, .one (.d (.sl false 2 1 (List.map i64c (l))))), (4, .one (.ptr [4] (k2 + 1) 0)), (6, .one (.ptr [6] (k2 + 1 + 1) 0)), (7, .one (.ptr [7] (k10 + 1) 0)), (9, .one (.d (.v (.int .i64 ((ζ.1 : Int))))))] [([4], (k2 + 1, k2 + 1, .box [.d (.v (.int .i64 (b.lo))), .d (.v (.int .i64 (b.hi)))])), ([6], (k2 + 1 + 1, k2 + 1 + 1, .box [.d (.v (.int .i64 (0))), .d (.v (.int .i64 (0)))])), ([7], (k10 + 1, ζ.2, .box [.d (.v (.int .i64 (a.lo))), .d (.v (.int .i64 (widenHi b.hi (l.take ζ.1) 9223372036854775807)))]))]) (fun ζ => ζ.1 ≤ l.length) (fun ζ => l.length - ζ.1) ?_ ?_
    ·skip
     exact .here (0, (k40 + 1)) (.of (.cons rfl (.cons rfl (.cons rfl (.cons rfl (.cons (svI (show (0) = ((0 : Int)) by first | rfl | omega | exact wrap_le (by omega) (by omega) | (rw [wrap_le (by omega) (by omega)]; omega))) .nil))))) (.cons rfl (.cons rfl (.cons (eq1 (fun z1 => some (k10 + 1, k40 + 1, O.box [.d (.v (.int .i64 (a.lo))), .d (.v (.int .i64 (z1)))])) (show (9223372036854775807) = (widenHi b.hi (l.take 0) 9223372036854775807) by first | rfl | (exact widenLo_yes (by omega) c3) | (exact widenLo_no (by omega) c3) | (exact widenHi_yes (by omega) c6) | (exact widenHi_no (by omega) c6))) .nil)))) (show 0 ≤ l.length by omega)
    ·rintro ⟨i, q42⟩ hI
     have hI : i ≤ l.length := hI
     have hl9 : l.length ≤ 100 := by omega
     dsimp only
     refine .seq <| .seq <| .rs fun k43 => .mv rfl <| .mv rfl <| .g (fun _ τ => ⟨_, .len (.no rfl) rfl (z := (l.length : Int)) t41 rfl rfl rfl (.d _ _) (map_len _ _) rfl τ⟩) <| .bi rfl <| .z ?_
     refine .cond (t := decide ((i : Int) < (l.length : Int))) rfl (fun c5 => ?_) (fun c5 => ?_)
     ·have c5 := of_decide_eq_true c5
      refine .skip <| .seq <| .block <| .seq ?_
      refine .regD (X := Unit) (by kernel_rfl) (fun ζ => .of [(2, .one (.d (.sl false 2 1 (List.map i64c (l))))), (4, .one (.ptr [4] (k2 + 1) 0)), (6, .one (.ptr [6] (k2 + 1 + 1) 0)), (7, .one (.ptr [7] (k10 + 1) 0)), (9, .one (.d (.v (.int .i64 ((i : Int)))))), (70, .one (.d (.v (.bool (decide ((l.getD i default) ≥ b.hi))))))] [([4], (k2 + 1, k2 + 1, .box [.d (.v (.int .i64 (b.lo))), .d (.v (.int .i64 (b.hi)))])), ([6], (k2 + 1 + 1, k2 + 1 + 1, .box [.d (.v (.int .i64 (0))), .d (.v (.int .i64 (0)))])), ([7], (k10 + 1, q42, .box [.d (.v (.int .i64 (a.lo))), .d (.v (.int .i64 (widenHi b.hi (l.take i) 9223372036854775807)))]))]) [⟨[2], some 64, [], []⟩, ⟨[9], some 65, [], []⟩, ⟨[64, 65], some 66, [], []⟩, ⟨[66], some 67, [], []⟩, ⟨[4], some 68, [], []⟩, ⟨[68], some 69, [[4]], []⟩, ⟨[67, 69], some 70, [], []⟩] (by kernel_rfl) (fun k44 => ?_) ?_
      ·skip
       refine .move (.no rfl) rfl rfl rfl rfl <| .move (.no rfl) rfl rfl rfl rfl <| .indexAddr (.no rfl) rfl (i) t41 rfl t2 rfl rfl rfl (.d _ _) rfl rfl rfl (map_get (by omega)) rfl rfl <| .load (.no rfl) rfl t2 rfl rfl (.d _) rfl rfl rfl rfl <| .fieldAddrP (.no rfl) rfl t119 rfl rfl t2 rfl rfl rfl rfl <| .load (.no rfl) rfl t2 rfl rfl (.ptr _ _ _ _ _ rfl) rfl rfl rfl rfl <| .bin (.no rfl) rfl rfl rfl rfl rfl rfl ?_
       exact .fin () (.of (.r rfl) (.r rfl))
      intro _
      refine .cond (t := decide ((l.getD i default) ≥ b.hi)) rfl (fun c6 => ?_) (fun c6 => ?_)
      ·have c6 := of_decide_eq_true c6
       refine .regD (X := Nat) (by kernel_rfl) (fun ζ => .of [(2, .one (.d (.sl false 2 1 (List.map i64c (l))))), (4, .one (.ptr [4] (k2 + 1) 0)), (6, .one (.ptr [6] (k2 + 1 + 1) 0)), (7, .one (.ptr [7] (k10 + 1) 0)), (9, .one (.d (.v (.int .i64 ((i : Int))))))] [([4], (k2 + 1, k2 + 1, .box [.d (.v (.int .i64 (b.lo))), .d (.v (.int .i64 (b.hi)))])), ([6], (k2 + 1 + 1, k2 + 1 + 1, .box [.d (.v (.int .i64 (0))), .d (.v (.int .i64 (0)))])), ([7], (k10 + 1, ζ, .box [.d (.v (.int .i64 (a.lo))), .d (.v (.int .i64 (min (widenHi b.hi (l.take i) 9223372036854775807) (l.getD i default))))]))]) [⟨[7], some 71, [], []⟩, ⟨[71], some 72, [[7]], []⟩, ⟨[2], some 73, [], []⟩, ⟨[9], some 74, [], []⟩, ⟨[73, 74], some 75, [], []⟩, ⟨[75], some 76, [], []⟩, ⟨[72, 76], some 77, [], []⟩, ⟨[7], some 78, [], []⟩, ⟨[78, 77], none, [[7]], [[7]]⟩] (by kernel_rfl) (fun k45 => ?_) ?_
       ·skip
        refine .fieldAddrP (.no rfl) rfl t119 rfl rfl t2 rfl rfl rfl rfl <| .load (.no rfl) rfl t2 rfl rfl (.ptr _ _ _ _ _ rfl) rfl rfl rfl rfl <| .move (.no rfl) rfl rfl rfl rfl <| .move (.no rfl) rfl rfl rfl rfl <| .indexAddr (.no rfl) rfl (i) t41 rfl t2 rfl rfl rfl (.d _ _) rfl rfl rfl (map_get (by omega)) rfl rfl <| .load (.no rfl) rfl t2 rfl rfl (.d _) rfl rfl rfl rfl <| .min (.no rfl) rfl rfl rfl rfl (min_of _ _) rfl <| .fieldAddrP (.no rfl) rfl t119 rfl rfl t2 rfl rfl rfl rfl <| .store (.no rfl) rfl t2 rfl rfl rfl rfl rfl rfl rfl rfl rfl ?_
        exact .fin (k45 + 1 + 1 + 1 + 1 + 1 + 1 + 1 + 1) (.of (.r rfl) (.r rfl))
       intro g46
       refine .rs fun k47 => .mv rfl <| .bi rfl <| .as rfl <| .z ?_
       exact .here ((i + 1), g46) (.of (.cons rfl (.cons rfl (.cons rfl (.cons rfl (.cons (svI (show (IntKind.wrap .i64 ((i : Int) + 1)) = (((i + 1) : Int)) by first | rfl | omega | exact wrap_le (by omega) (by omega) | (rw [wrap_le (by omega) (by omega)]; omega))) .nil))))) (.cons rfl (.cons rfl (.cons (eq1 (fun z1 => some (k10 + 1, g46, O.box [.d (.v (.int .i64 (a.lo))), .d (.v (.int .i64 (z1)))])) (show (min (widenHi b.hi (l.take i) 9223372036854775807) (l.getD i default)) = (widenHi b.hi (l.take (i + 1)) 9223372036854775807) by first | rfl | (exact widenLo_yes (by omega) c3) | (exact widenLo_no (by omega) c3) | (exact widenHi_yes (by omega) c6) | (exact widenHi_no (by omega) c6))) .nil)))) ⟨(show (i + 1) ≤ l.length by omega), (show l.length - (i + 1) < l.length - i by omega)⟩
      ·have c6 := of_decide_eq_false c6
       refine .skip <| .rs fun k48 => .mv rfl <| .bi rfl <| .as rfl <| .z ?_
       exact .here ((i + 1), q42) (.of (.cons rfl (.cons rfl (.cons rfl (.cons rfl (.cons (svI (show (IntKind.wrap .i64 ((i : Int) + 1)) = (((i + 1) : Int)) by first | rfl | omega | exact wrap_le (by omega) (by omega) | (rw [wrap_le (by omega) (by omega)]; omega))) .nil))))) (.cons rfl (.cons rfl (.cons (eq1 (fun z1 => some (k10 + 1, q42, O.box [.d (.v (.int .i64 (a.lo))), .d (.v (.int .i64 (z1)))])) (show (widenHi b.hi (l.take i) 9223372036854775807) = (widenHi b.hi (l.take (i + 1)) 9223372036854775807) by first | rfl | (exact widenLo_yes (by omega) c3) | (exact widenLo_no (by omega) c3) | (exact widenHi_yes (by omega) c6) | (exact widenHi_no (by omega) c6))) .nil)))) ⟨(show (i + 1) ≤ l.length by omega), (show l.length - (i + 1) < l.length - i by omega)⟩
     ·have c5 := of_decide_eq_false c5
      refine .exit <| .seq <| .rs fun k49 => .lda t119 rfl (.ptr _ _ _ _ _ rfl) rfl <| .g (fun _ τ => ⟨_, .store (.no rfl) rfl t119 rfl rfl rfl rfl rfl rfl rfl rfl rfl τ⟩) <| .z <| .ret ?_
      have e50 : (a.lo) = ((Iv.widenOk l a b).lo) := by (rw [Iv.widenOk_yes c0]; simp only [Iv.widen]; first | (rw [if_neg c1]; done) | (rw [List.take_of_length_le (by omega), if_pos c4]; done))
      have e51 : (widenHi b.hi (l.take i) 9223372036854775807) = ((Iv.widenOk l a b).hi) := by (rw [Iv.widenOk_yes c0]; simp only [Iv.widen]; first | (rw [if_neg c1]; done) | (rw [List.take_of_length_le (by omega), if_pos c4]; done))
      have hc52 := eq2 (fun z1 z2 => some (k2 + 1 + 1, k49 + 1, O.box [.d (.v (.int .i64 (z1))), .d (.v (.int .i64 (z2)))])) e50 e51
      exact fin0 (.inr rfl) (.cell (cells := [.d (.v (.int .i64 ((Iv.widenOk l a b).lo))), .d (.v (.int .i64 ((Iv.widenOk l a b).hi)))]) rfl hc52 t119 rfl rfl .nil) (.dd (.dd .nil)) rfl
   ·have c4 := of_decide_eq_false c4
    refine .skip <| .seq <| .rs fun k53 => .lda t119 rfl (.ptr _ _ _ _ _ rfl) rfl <| .g (fun _ τ => ⟨_, .store (.no rfl) rfl t119 rfl rfl rfl rfl rfl rfl rfl rfl rfl τ⟩) <| .z <| .ret ?_
    have e54 : (a.lo) = ((Iv.widenOk l a b).lo) := by (rw [Iv.widenOk_yes c0]; simp only [Iv.widen]; first | (rw [if_neg c1]; done) | (rw [if_neg c4]; done))
    have e55 : (a.hi) = ((Iv.widenOk l a b).hi) := by (rw [Iv.widenOk_yes c0]; simp only [Iv.widen]; first | (rw [if_neg c1]; done) | (rw [if_neg c4]; done))
    have hc56 := eq2 (fun z1 z2 => some (k2 + 1 + 1, k53 + 1, O.box [.d (.v (.int .i64 (z1))), .d (.v (.int .i64 (z2)))])) e54 e55
    exact fin0 (.inr rfl) (.cell (cells := [.d (.v (.int .i64 ((Iv.widenOk l a b).lo))), .d (.v (.int .i64 ((Iv.widenOk l a b).hi)))]) rfl hc56 t119 rfl rfl .nil) (.dd (.dd .nil)) rfl
theorem c_IvWiden (a : Iv) (b : Iv) (l : List Int) : Trip Tryz.prog 108 [(true, 2), (true, 2), (false, 1)] (Iv.c a ++ Iv.c b ++ [.sl false 2 1 (List.map i64c (l))]) [(true, 2)] [.v (.int .i64 ((Iv.widenOk l a b).lo)), .v (.int .i64 ((Iv.widenOk l a b).hi))] [] := by
 refine Trip.of Tryz.func108 (by decide) (c := _) rfl rfl (Nat.le_of_ble_eq_true rfl) rfl (AftOk.nil _) <| .sl (t := 2) rfl fun hs1l => .seq <| .rs fun k2 => .g (fun _ τ => ⟨_, .box (.no rfl) rfl rfl rfl rfl rfl τ⟩) <| .g (fun _ τ => ⟨_, .box (.no rfl) rfl rfl rfl rfl rfl τ⟩) <| .g (fun _ τ => ⟨_, .alloc (.no rfl) rfl z119 rfl rfl rfl τ⟩) <| .z <| .seq ?_
 refine .seq ?_
 refine .reg (X := Unit) (fun ζ => .of [(2, .one (.d (.sl false 2 1 (List.map i64c (l))))), (3, .one (.ptr [3] (k2) 0)), (4, .one (.ptr [4] (k2 + 1) 0)), (6, .one (.ptr [6] (k2 + 1 + 1) 0)), (20, .one (.d (.v (.bool ((!(Iv.ok a && Iv.ok b) || decide ((l.length : Int) > 100)))))))] [([3], (k2, k2, .box [.d (.v (.int .i64 (a.lo))), .d (.v (.int .i64 (a.hi)))])), ([4], (k2 + 1, k2 + 1, .box [.d (.v (.int .i64 (b.lo))), .d (.v (.int .i64 (b.hi)))])), ([6], (k2 + 1 + 1, k2 + 1 + 1, .box [.d (.v (.int .i64 (0))), .d (.v (.int .i64 (0)))]))]) [⟨[3], some 12, [[3]], []⟩, ⟨[4], some 13, [[4]], []⟩, ⟨[12, 13], some 14, [], []⟩, ⟨[14], some 15, [], []⟩, ⟨[15], some 16, [], []⟩, ⟨[16, 2], some 17, [], []⟩, ⟨[16, 17], some 18, [], []⟩, ⟨[16, 18], some 19, [], []⟩, ⟨[16, 19], some 20, [], []⟩] (fun k3 => ?_) ?_
 ·skip
  refine .load (.no rfl) rfl t119 rfl rfl (.ptr _ _ _ _ _ rfl) rfl rfl rfl rfl <| .load (.no rfl) rfl t119 rfl rfl (.ptr _ _ _ _ _ rfl) rfl rfl rfl rfl <| .call (.no rfl) rfl [] [] (c_areIvs a b) rfl rfl rfl rfl rfl (.dd (.dd (.dd (.dd .nil)))) rfl rfl (fun h => absurd rfl h) (.own [14, 0] .nil) (.nil) rfl rfl rfl (by simp) rfl rfl rfl <| .un (.no rfl) rfl rfl rfl rfl rfl <| .moveB (.no rfl) rfl rfl rfl rfl fun b4 g1_4 => ?_
  cases b4
  ·skip
   refine .move (.on rfl rfl rfl rfl rfl) rfl rfl rfl rfl <| .len (.on rfl rfl rfl rfl rfl) rfl (z := (l.length : Int)) t41 rfl rfl rfl (.d _ _) (map_len _ _) rfl <| .bin (.on rfl rfl rfl rfl rfl) rfl rfl rfl rfl rfl rfl <| .pick (.no rfl) rfl rfl rfl rfl rfl ?_
   exact .fin () (.of (.cons rfl (.cons rfl (.cons rfl (.cons rfl (.cons (svB (show (decide ((l.length : Int) > 100)) = ((!(Iv.ok a && Iv.ok b) || decide ((l.length : Int) > 100))) by first | (simp only [g1_4, Bool.true_or, Bool.false_or, Bool.true_and, Bool.false_and, Bool.not_true, Bool.not_false]; done) | (simp [g1_4]; done) | (exfalso; simp_all; done))) .nil))))) (.r rfl))
  ·skip
   refine .off rfl rfl rfl rfl rfl rfl rfl <| .off rfl rfl rfl rfl rfl rfl rfl <| .off rfl rfl rfl rfl rfl rfl rfl <| .pick (.no rfl) rfl rfl rfl rfl rfl ?_
   exact .fin () (.of (.cons rfl (.cons rfl (.cons rfl (.cons rfl (.cons (svB (show (true) = ((!(Iv.ok a && Iv.ok b) || decide ((l.length : Int) > 100))) by first | (simp only [g1_4, Bool.true_or, Bool.false_or, Bool.true_and, Bool.false_and, Bool.not_true, Bool.not_false]; done) | (simp [g1_4]; done) | (exfalso; simp_all; done))) .nil))))) (.r rfl))
 intro _
 refine .cond (t := (!(Iv.ok a && Iv.ok b) || decide ((l.length : Int) > 100))) rfl (fun c0 => ?_) (fun c0 => ?_)
 ·have c0 := (oT (nT (aF id id)) dT) c0
  refine .seq <| .rs fun k5 => .g (fun _ τ => ⟨_, .build (.no rfl) rfl z119 rfl p119 rfl rfl rfl rfl τ⟩) <| .g (fun _ τ => ⟨_, .store (.no rfl) rfl t119 rfl rfl rfl rfl rfl rfl rfl rfl rfl τ⟩) <| .z <| .ret ?_
  have e6 : (0) = ((Iv.widenOk l a b).lo) := by (rw [Iv.widenOk_no c0])
  have e7 : (0) = ((Iv.widenOk l a b).hi) := by (rw [Iv.widenOk_no c0])
  have hc8 := eq2 (fun z1 z2 => some (k2 + 1 + 1, k5 + 1, O.box [.d (.v (.int .i64 (z1))), .d (.v (.int .i64 (z2)))])) e6 e7
  exact fin0 (.inr rfl) (.cell (cells := [.d (.v (.int .i64 ((Iv.widenOk l a b).lo))), .d (.v (.int .i64 ((Iv.widenOk l a b).hi)))]) rfl hc8 t119 rfl rfl .nil) (.dd (.dd .nil)) rfl
 ·have c0 := (oF (nF (aT id id)) dF) c0
  refine .skip <| .seq <| .rs fun k9 => .lda t119 rfl (.ptr _ _ _ _ _ rfl) rfl <| .g (fun _ τ => ⟨_, .alloc (.no rfl) rfl z119 rfl rfl rfl τ⟩) <| .g (fun _ τ => ⟨_, .store (.no rfl) rfl t119 rfl rfl rfl rfl rfl rfl rfl rfl rfl τ⟩) <| .z <| .seq <| .seq ?_
  refine .rs fun k10 => .fp t119 t2 rfl <| .ld t2 rfl (.ptr _ _ _ _ _ rfl) rfl <| .fp t119 t2 rfl <| .ld t2 rfl (.ptr _ _ _ _ _ rfl) rfl <| .bi rfl <| .z ?_
  refine .cond (t := decide (b.lo < a.lo)) rfl (fun c1 => ?_) (fun c1 => ?_)
  ·have c1 := of_decide_eq_true c1
   refine .seq <| .rs fun k11 => .fp t119 t2 rfl <| .g (fun _ τ => ⟨_, .store (.no rfl) rfl t2 rfl rfl rfl rfl rfl rfl rfl rfl rfl τ⟩) <| .z <| .seq <| .rs fun k12 => .mv rfl <| .g (fun _ τ => ⟨_, .len (.no rfl) rfl (z := (l.length : Int)) t41 rfl rfl rfl (.d _ _) (map_len _ _) rfl τ⟩) ?_
   refine .mv rfl <| .z <| .block ?_
   refine .loop (X := Nat × Nat) (fun ζ => .of [(2, .one (.d (.sl false 2 1 (List.map i64c (l))))), (3, .one (.ptr [3] (k2) 0)), (4, .one (.ptr [4] (k2 + 1) 0)), (6, .one (.ptr [6] (k2 + 1 + 1) 0)), (7, .one (.ptr [7] (k9 + 1) 0)), (29, .one (.d (.sl false 2 1 (List.map i64c (l))))), (30, .one (.d (.v (.int .i64 ((l.length : Int)))))), (31, .one (.d (.v (.int .i64 ((ζ.1 : Int))))))] [([3], (k2, k2, .box [.d (.v (.int .i64 (a.lo))), .d (.v (.int .i64 (a.hi)))])), ([4], (k2 + 1, k2 + 1, .box [.d (.v (.int .i64 (b.lo))), .d (.v (.int .i64 (b.hi)))])), ([6], (k2 + 1 + 1, k2 + 1 + 1, .box [.d (.v (.int .i64 (0))), .d (.v (.int .i64 (0)))])), ([7], (k9 + 1, ζ.2, .box [.d (.v (.int .i64 (widenLo b.lo (l.take ζ.1) (-9223372036854775808)))), .d (.v (.int .i64 (a.hi)))]))]) (fun ζ => ζ.1 ≤ l.length) (fun ζ => l.length - ζ.1) ?_ ?_
   ·skip
    exact .here (0, (k11 + 1)) (.of (.cons rfl (.cons rfl (.cons rfl (.cons rfl (.cons rfl (.cons rfl (.cons rfl (.cons (svI (show (0) = ((0 : Int)) by first | rfl | omega | exact wrap_le (by omega) (by omega) | (rw [wrap_le (by omega) (by omega)]; omega))) .nil)))))))) (.cons rfl (.cons rfl (.cons rfl (.cons (eq1 (fun z1 => some (k9 + 1, k11 + 1, O.box [.d (.v (.int .i64 (z1))), .d (.v (.int .i64 (a.hi)))])) (show (-9223372036854775808) = (widenLo b.lo (l.take 0) (-9223372036854775808)) by first | rfl | (exact widenLo_yes (by omega) c3) | (exact widenLo_no (by omega) c3) | (exact widenHi_yes (by omega) c6) | (exact widenHi_no (by omega) c6))) .nil))))) (show 0 ≤ l.length by omega)
   ·rintro ⟨j, q13⟩ hI
    have hI : j ≤ l.length := hI
    have hl9 : l.length ≤ 100 := by omega
    dsimp only
    refine .seq <| .rs fun k14 => .bi rfl <| .z <| .seq ?_
    refine .cond (t := decide ((j : Int) < (l.length : Int))) rfl (fun c2 => ?_) (fun c2 => ?_)
    ·have c2 := of_decide_eq_true c2
     refine .skip <| .seq <| .block <| .seq <| .rs fun k15 => .g (fun _ τ => ⟨_, .indexAddr (.no rfl) rfl (j) t41 rfl t2 rfl rfl rfl (.d _ _) rfl rfl rfl (map_get (by omega)) rfl rfl τ⟩) <| .ld t2 rfl (.d _) rfl <| .as rfl <| .z ?_
     refine .seq <| .rs fun k16 => .mv rfl <| .fp t119 t2 rfl <| .ld t2 rfl (.ptr _ _ _ _ _ rfl) rfl <| .bi rfl <| .z ?_
     refine .cond (t := decide ((l.getD j default) ≤ b.lo)) rfl (fun c3 => ?_) (fun c3 => ?_)
     ·have c3 := of_decide_eq_true c3
      refine .rs fun k17 => .fp t119 t2 rfl <| .ld t2 rfl (.ptr _ _ _ _ _ rfl) rfl <| .mv rfl <| .g (fun _ τ => ⟨_, .max (.no rfl) rfl rfl rfl rfl (max_of _ _) rfl τ⟩) <| .fp t119 t2 rfl <| .g (fun _ τ => ⟨_, .store (.no rfl) rfl t2 rfl rfl rfl rfl rfl rfl rfl rfl rfl τ⟩) <| .z <| .rs fun k18 => ?_
      refine .bi rfl <| .mv rfl <| .z ?_
      exact .here ((j + 1), (k17 + 1 + 1 + 1 + 1 + 1)) (.of (.cons rfl (.cons rfl (.cons rfl (.cons rfl (.cons rfl (.cons rfl (.cons rfl (.cons (svI (show (IntKind.wrap .i64 ((j : Int) + 1)) = (((j + 1) : Int)) by first | rfl | omega | exact wrap_le (by omega) (by omega) | (rw [wrap_le (by omega) (by omega)]; omega))) .nil)))))))) (.cons rfl (.cons rfl (.cons rfl (.cons (eq1 (fun z1 => some (k9 + 1, k17 + 1 + 1 + 1 + 1 + 1, O.box [.d (.v (.int .i64 (z1))), .d (.v (.int .i64 (a.hi)))])) (show (max (widenLo b.lo (l.take j) (-9223372036854775808)) (l.getD j default)) = (widenLo b.lo (l.take (j + 1)) (-9223372036854775808)) by first | rfl | (exact widenLo_yes (by omega) c3) | (exact widenLo_no (by omega) c3) | (exact widenHi_yes (by omega) c6) | (exact widenHi_no (by omega) c6))) .nil))))) ⟨(show (j + 1) ≤ l.length by omega), (show l.length - (j + 1) < l.length - j by omega)⟩
     ·have c3 := of_decide_eq_false c3
      refine .skip <| .rs fun k19 => .bi rfl <| .mv rfl <| .z ?_
      exact .here ((j + 1), q13) (.of (.cons rfl (.cons rfl (.cons rfl (.cons rfl (.cons rfl (.cons rfl (.cons rfl (.cons (svI (show (IntKind.wrap .i64 ((j : Int) + 1)) = (((j + 1) : Int)) by first | rfl | omega | exact wrap_le (by omega) (by omega) | (rw [wrap_le (by omega) (by omega)]; omega))) .nil)))))))) (.cons rfl (.cons rfl (.cons rfl (.cons (eq1 (fun z1 => some (k9 + 1, q13, O.box [.d (.v (.int .i64 (z1))), .d (.v (.int .i64 (a.hi)))])) (show (widenLo b.lo (l.take j) (-9223372036854775808)) = (widenLo b.lo (l.take (j + 1)) (-9223372036854775808)) by first | rfl | (exact widenLo_yes (by omega) c3) | (exact widenLo_no (by omega) c3) | (exact widenHi_yes (by omega) c6) | (exact widenHi_no (by omega) c6))) .nil))))) ⟨(show (j + 1) ≤ l.length by omega), (show l.length - (j + 1) < l.length - j by omega)⟩
    ·have c2 := of_decide_eq_false c2
     refine .exit <| .seq <| .seq <| .rs fun k20 => .fp t119 t2 rfl <| .ld t2 rfl (.ptr _ _ _ _ _ rfl) rfl <| .fp t119 t2 rfl <| .ld t2 rfl (.ptr _ _ _ _ _ rfl) rfl <| .bi rfl ?_
     refine .z ?_
     refine .cond (t := decide (b.hi > a.hi)) rfl (fun c4 => ?_) (fun c4 => ?_)
     ·have c4 := of_decide_eq_true c4
      refine .seq <| .rs fun k21 => .fp t119 t2 rfl <| .g (fun _ τ => ⟨_, .store (.no rfl) rfl t2 rfl rfl rfl rfl rfl rfl rfl rfl rfl τ⟩) <| .z <| .seq <| .rs fun k22 => .mv rfl <| .g (fun _ τ => ⟨_, .len (.no rfl) rfl (z := (l.length : Int)) t41 rfl rfl rfl (.d _ _) (map_len _ _) rfl τ⟩) ?_
      refine .mv rfl <| .z <| .block ?_
      refine .loop (X := Nat × Nat) (fun ζ => .of [(4, .one (.ptr [4] (k2 + 1) 0)), (6, .one (.ptr [6] (k2 + 1 + 1) 0)), (7, .one (.ptr [7] (k9 + 1) 0)), (51, .one (.d (.sl false 2 1 (List.map i64c (l))))), (52, .one (.d (.v (.int .i64 ((l.length : Int)))))), (53, .one (.d (.v (.int .i64 ((ζ.1 : Int))))))] [([4], (k2 + 1, k2 + 1, .box [.d (.v (.int .i64 (b.lo))), .d (.v (.int .i64 (b.hi)))])), ([6], (k2 + 1 + 1, k2 + 1 + 1, .box [.d (.v (.int .i64 (0))), .d (.v (.int .i64 (0)))])), ([7], (k9 + 1, ζ.2, .box [.d (.v (.int .i64 (widenLo b.lo (l.take j) (-9223372036854775808)))), .d (.v (.int .i64 (widenHi b.hi (l.take ζ.1) 9223372036854775807)))]))]) (fun ζ => ζ.1 ≤ l.length) (fun ζ => l.length - ζ.1) ?_ ?_
      ·skip
       exact .here (0, (k21 + 1)) (.of (.cons rfl (.cons rfl (.cons rfl (.cons rfl (.cons rfl (.cons (svI (show (0) = ((0 : Int)) by first | rfl | omega | exact wrap_le (by omega) (by omega) | (rw [wrap_le (by omega) (by omega)]; omega))) .nil)))))) (.cons rfl (.cons rfl (.cons (eq1 (fun z1 => some (k9 + 1, k21 + 1, O.box [.d (.v (.int .i64 (widenLo b.lo (l.take j) (-9223372036854775808)))), .d (.v (.int .i64 (z1)))])) (show (9223372036854775807) = (widenHi b.hi (l.take 0) 9223372036854775807) by first | rfl | (exact widenLo_yes (by omega) c3) | (exact widenLo_no (by omega) c3) | (exact widenHi_yes (by omega) c6) | (exact widenHi_no (by omega) c6))) .nil)))) (show 0 ≤ l.length by omega)
      ·rintro ⟨i, q23⟩ hI
       have hI : i ≤ l.length := hI
       have hl9 : l.length ≤ 100 := by omega
       have hj9 := ‹j ≤ l.length›
       dsimp only
       refine .seq <| .rs fun k24 => .bi rfl <| .z <| .seq ?_
       refine .cond (t := decide ((i : Int) < (l.length : Int))) rfl (fun c5 => ?_) (fun c5 => ?_)
       ·have c5 := of_decide_eq_true c5
        refine .skip <| .seq <| .block <| .seq <| .rs fun k25 => .g (fun _ τ => ⟨_, .indexAddr (.no rfl) rfl (i) t41 rfl t2 rfl rfl rfl (.d _ _) rfl rfl rfl (map_get (by omega)) rfl rfl τ⟩) <| .ld t2 rfl (.d _) rfl <| .as rfl <| .z ?_
        refine .seq <| .rs fun k26 => .mv rfl <| .fp t119 t2 rfl <| .ld t2 rfl (.ptr _ _ _ _ _ rfl) rfl <| .bi rfl <| .z ?_
        refine .cond (t := decide ((l.getD i default) ≥ b.hi)) rfl (fun c6 => ?_) (fun c6 => ?_)
        ·have c6 := of_decide_eq_true c6
         refine .rs fun k27 => .fp t119 t2 rfl <| .ld t2 rfl (.ptr _ _ _ _ _ rfl) rfl <| .mv rfl <| .g (fun _ τ => ⟨_, .min (.no rfl) rfl rfl rfl rfl (min_of _ _) rfl τ⟩) <| .fp t119 t2 rfl <| .g (fun _ τ => ⟨_, .store (.no rfl) rfl t2 rfl rfl rfl rfl rfl rfl rfl rfl rfl τ⟩) <| .z <| .rs fun k28 => ?_
         refine .bi rfl <| .mv rfl <| .z ?_
         exact .here ((i + 1), (k27 + 1 + 1 + 1 + 1 + 1)) (.of (.cons rfl (.cons rfl (.cons rfl (.cons rfl (.cons rfl (.cons (svI (show (IntKind.wrap .i64 ((i : Int) + 1)) = (((i + 1) : Int)) by first | rfl | omega | exact wrap_le (by omega) (by omega) | (rw [wrap_le (by omega) (by omega)]; omega))) .nil)))))) (.cons rfl (.cons rfl (.cons (eq1 (fun z1 => some (k9 + 1, k27 + 1 + 1 + 1 + 1 + 1, O.box [.d (.v (.int .i64 (widenLo b.lo (l.take j) (-9223372036854775808)))), .d (.v (.int .i64 (z1)))])) (show (min (widenHi b.hi (l.take i) 9223372036854775807) (l.getD i default)) = (widenHi b.hi (l.take (i + 1)) 9223372036854775807) by first | rfl | (exact widenLo_yes (by omega) c3) | (exact widenLo_no (by omega) c3) | (exact widenHi_yes (by omega) c6) | (exact widenHi_no (by omega) c6))) .nil)))) ⟨(show (i + 1) ≤ l.length by omega), (show l.length - (i + 1) < l.length - i by omega)⟩
        ·have c6 := of_decide_eq_false c6
         refine .skip <| .rs fun k29 => .bi rfl <| .mv rfl <| .z ?_
         exact .here ((i + 1), q23) (.of (.cons rfl (.cons rfl (.cons rfl (.cons rfl (.cons rfl (.cons (svI (show (IntKind.wrap .i64 ((i : Int) + 1)) = (((i + 1) : Int)) by first | rfl | omega | exact wrap_le (by omega) (by omega) | (rw [wrap_le (by omega) (by omega)]; omega))) .nil)))))) (.cons rfl (.cons rfl (.cons (eq1 (fun z1 => some (k9 + 1, q23, O.box [.d (.v (.int .i64 (widenLo b.lo (l.take j) (-9223372036854775808)))), .d (.v (.int .i64 (z1)))])) (show (widenHi b.hi (l.take i) 9223372036854775807) = (widenHi b.hi (l.take (i + 1)) 9223372036854775807) by first | rfl | (exact widenLo_yes (by omega) c3) | (exact widenLo_no (by omega) c3) | (exact widenHi_yes (by omega) c6) | (exact widenHi_no (by omega) c6))) .nil)))) ⟨(show (i + 1) ≤ l.length by omega), (show l.length - (i + 1) < l.length - i by omega)⟩
       ·have c5 := of_decide_eq_false c5
        refine .exit <| .seq <| .rs fun k30 => .lda t119 rfl (.ptr _ _ _ _ _ rfl) rfl <| .g (fun _ τ => ⟨_, .store (.no rfl) rfl t119 rfl rfl rfl rfl rfl rfl rfl rfl rfl τ⟩) <| .z <| .ret ?_
        have e31 : (widenLo b.lo (l.take j) (-9223372036854775808)) = ((Iv.widenOk l a b).lo) := by (rw [Iv.widenOk_yes c0]; simp only [Iv.widen]; first | (rw [List.take_of_length_le (by omega), if_pos c1]; done) | (rw [List.take_of_length_le (by omega), if_pos c4]; done))
        have e32 : (widenHi b.hi (l.take i) 9223372036854775807) = ((Iv.widenOk l a b).hi) := by (rw [Iv.widenOk_yes c0]; simp only [Iv.widen]; first | (rw [List.take_of_length_le (by omega), if_pos c1]; done) | (rw [List.take_of_length_le (by omega), if_pos c4]; done))
        have hc33 := eq2 (fun z1 z2 => some (k2 + 1 + 1, k30 + 1, O.box [.d (.v (.int .i64 (z1))), .d (.v (.int .i64 (z2)))])) e31 e32
        exact fin0 (.inr rfl) (.cell (cells := [.d (.v (.int .i64 ((Iv.widenOk l a b).lo))), .d (.v (.int .i64 ((Iv.widenOk l a b).hi)))]) rfl hc33 t119 rfl rfl .nil) (.dd (.dd .nil)) rfl
     ·have c4 := of_decide_eq_false c4
      refine .skip <| .seq <| .rs fun k34 => .lda t119 rfl (.ptr _ _ _ _ _ rfl) rfl <| .g (fun _ τ => ⟨_, .store (.no rfl) rfl t119 rfl rfl rfl rfl rfl rfl rfl rfl rfl τ⟩) <| .z <| .ret ?_
      have e35 : (widenLo b.lo (l.take j) (-9223372036854775808)) = ((Iv.widenOk l a b).lo) := by (rw [Iv.widenOk_yes c0]; simp only [Iv.widen]; first | (rw [List.take_of_length_le (by omega), if_pos c1]; done) | (rw [if_neg c4]; done))
      have e36 : (a.hi) = ((Iv.widenOk l a b).hi) := by (rw [Iv.widenOk_yes c0]; simp only [Iv.widen]; first | (rw [List.take_of_length_le (by omega), if_pos c1]; done) | (rw [if_neg c4]; done))
      have hc37 := eq2 (fun z1 z2 => some (k2 + 1 + 1, k34 + 1, O.box [.d (.v (.int .i64 (z1))), .d (.v (.int .i64 (z2)))])) e35 e36
      exact fin0 (.inr rfl) (.cell (cells := [.d (.v (.int .i64 ((Iv.widenOk l a b).lo))), .d (.v (.int .i64 ((Iv.widenOk l a b).hi)))]) rfl hc37 t119 rfl rfl .nil) (.dd (.dd .nil)) rfl
  ·have c1 := of_decide_eq_false c1
   refine .skip <| .seq <| .seq <| .rs fun k38 => .fp t119 t2 rfl <| .ld t2 rfl (.ptr _ _ _ _ _ rfl) rfl <| .fp t119 t2 rfl <| .ld t2 rfl (.ptr _ _ _ _ _ rfl) rfl <| .bi rfl ?_
   refine .z ?_
   refine .cond (t := decide (b.hi > a.hi)) rfl (fun c4 => ?_) (fun c4 => ?_)
   ·have c4 := of_decide_eq_true c4
    refine .seq <| .rs fun k39 => .fp t119 t2 rfl <| .g (fun _ τ => ⟨_, .store (.no rfl) rfl t2 rfl rfl rfl rfl rfl rfl rfl rfl rfl τ⟩) <| .z <| .seq <| .rs fun k40 => .mv rfl <| .g (fun _ τ => ⟨_, .len (.no rfl) rfl (z := (l.length : Int)) t41 rfl rfl rfl (.d _ _) (map_len _ _) rfl τ⟩) ?_
    refine .mv rfl <| .z <| .block ?_
    refine .loop (X := Nat × Nat) (fun ζ => .of [(4, .one (.ptr [4] (k2 + 1) 0)), (6, .one (.ptr [6] (k2 + 1 + 1) 0)), (7, .one (.ptr [7] (k9 + 1) 0)), (51, .one (.d (.sl false 2 1 (List.map i64c (l))))), (52, .one (.d (.v (.int .i64 ((l.length : Int)))))), (53, .one (.d (.v (.int .i64 ((ζ.1 : Int))))))] [([4], (k2 + 1, k2 + 1, .box [.d (.v (.int .i64 (b.lo))), .d (.v (.int .i64 (b.hi)))])), ([6], (k2 + 1 + 1, k2 + 1 + 1, .box [.d (.v (.int .i64 (0))), .d (.v (.int .i64 (0)))])), ([7], (k9 + 1, ζ.2, .box [.d (.v (.int .i64 (a.lo))), .d (.v (.int .i64 (widenHi b.hi (l.take ζ.1) 9223372036854775807)))]))]) (fun ζ => ζ.1 ≤ l.length) (fun ζ => l.length - ζ.1) ?_ ?_
    ·skip
     exact .here (0, (k39 + 1)) (.of (.cons rfl (.cons rfl (.cons rfl (.cons rfl (.cons rfl (.cons (svI (show (0) = ((0 : Int)) by first | rfl | omega | exact wrap_le (by omega) (by omega) | (rw [wrap_le (by omega) (by omega)]; omega))) .nil)))))) (.cons rfl (.cons rfl (.cons (eq1 (fun z1 => some (k9 + 1, k39 + 1, O.box [.d (.v (.int .i64 (a.lo))), .d (.v (.int .i64 (z1)))])) (show (9223372036854775807) = (widenHi b.hi (l.take 0) 9223372036854775807) by first | rfl | (exact widenLo_yes (by omega) c3) | (exact widenLo_no (by omega) c3) | (exact widenHi_yes (by omega) c6) | (exact widenHi_no (by omega) c6))) .nil)))) (show 0 ≤ l.length by omega)
    ·rintro ⟨i, q41⟩ hI
     have hI : i ≤ l.length := hI
     have hl9 : l.length ≤ 100 := by omega
     dsimp only
     refine .seq <| .rs fun k42 => .bi rfl <| .z <| .seq ?_
     refine .cond (t := decide ((i : Int) < (l.length : Int))) rfl (fun c5 => ?_) (fun c5 => ?_)
     ·have c5 := of_decide_eq_true c5
      refine .skip <| .seq <| .block <| .seq <| .rs fun k43 => .g (fun _ τ => ⟨_, .indexAddr (.no rfl) rfl (i) t41 rfl t2 rfl rfl rfl (.d _ _) rfl rfl rfl (map_get (by omega)) rfl rfl τ⟩) <| .ld t2 rfl (.d _) rfl <| .as rfl <| .z ?_
      refine .seq <| .rs fun k44 => .mv rfl <| .fp t119 t2 rfl <| .ld t2 rfl (.ptr _ _ _ _ _ rfl) rfl <| .bi rfl <| .z ?_
      refine .cond (t := decide ((l.getD i default) ≥ b.hi)) rfl (fun c6 => ?_) (fun c6 => ?_)
      ·have c6 := of_decide_eq_true c6
       refine .rs fun k45 => .fp t119 t2 rfl <| .ld t2 rfl (.ptr _ _ _ _ _ rfl) rfl <| .mv rfl <| .g (fun _ τ => ⟨_, .min (.no rfl) rfl rfl rfl rfl (min_of _ _) rfl τ⟩) <| .fp t119 t2 rfl <| .g (fun _ τ => ⟨_, .store (.no rfl) rfl t2 rfl rfl rfl rfl rfl rfl rfl rfl rfl τ⟩) <| .z <| .rs fun k46 => ?_
       refine .bi rfl <| .mv rfl <| .z ?_
       exact .here ((i + 1), (k45 + 1 + 1 + 1 + 1 + 1)) (.of (.cons rfl (.cons rfl (.cons rfl (.cons rfl (.cons rfl (.cons (svI (show (IntKind.wrap .i64 ((i : Int) + 1)) = (((i + 1) : Int)) by first | rfl | omega | exact wrap_le (by omega) (by omega) | (rw [wrap_le (by omega) (by omega)]; omega))) .nil)))))) (.cons rfl (.cons rfl (.cons (eq1 (fun z1 => some (k9 + 1, k45 + 1 + 1 + 1 + 1 + 1, O.box [.d (.v (.int .i64 (a.lo))), .d (.v (.int .i64 (z1)))])) (show (min (widenHi b.hi (l.take i) 9223372036854775807) (l.getD i default)) = (widenHi b.hi (l.take (i + 1)) 9223372036854775807) by first | rfl | (exact widenLo_yes (by omega) c3) | (exact widenLo_no (by omega) c3) | (exact widenHi_yes (by omega) c6) | (exact widenHi_no (by omega) c6))) .nil)))) ⟨(show (i + 1) ≤ l.length by omega), (show l.length - (i + 1) < l.length - i by omega)⟩
      ·have c6 := of_decide_eq_false c6
       refine .skip <| .rs fun k47 => .bi rfl <| .mv rfl <| .z ?_
       exact .here ((i + 1), q41) (.of (.cons rfl (.cons rfl (.cons rfl (.cons rfl (.cons rfl (.cons (svI (show (IntKind.wrap .i64 ((i : Int) + 1)) = (((i + 1) : Int)) by first | rfl | omega | exact wrap_le (by omega) (by omega) | (rw [wrap_le (by omega) (by omega)]; omega))) .nil)))))) (.cons rfl (.cons rfl (.cons (eq1 (fun z1 => some (k9 + 1, q41, O.box [.d (.v (.int .i64 (a.lo))), .d (.v (.int .i64 (z1)))])) (show (widenHi b.hi (l.take i) 9223372036854775807) = (widenHi b.hi (l.take (i + 1)) 9223372036854775807) by first | rfl | (exact widenLo_yes (by omega) c3) | (exact widenLo_no (by omega) c3) | (exact widenHi_yes (by omega) c6) | (exact widenHi_no (by omega) c6))) .nil)))) ⟨(show (i + 1) ≤ l.length by omega), (show l.length - (i + 1) < l.length - i by omega)⟩
     ·have c5 := of_decide_eq_false c5
      refine .exit <| .seq <| .rs fun k48 => .lda t119 rfl (.ptr _ _ _ _ _ rfl) rfl <| .g (fun _ τ => ⟨_, .store (.no rfl) rfl t119 rfl rfl rfl rfl rfl rfl rfl rfl rfl τ⟩) <| .z <| .ret ?_
      have e49 : (a.lo) = ((Iv.widenOk l a b).lo) := by (rw [Iv.widenOk_yes c0]; simp only [Iv.widen]; first | (rw [if_neg c1]; done) | (rw [List.take_of_length_le (by omega), if_pos c4]; done))
      have e50 : (widenHi b.hi (l.take i) 9223372036854775807) = ((Iv.widenOk l a b).hi) := by (rw [Iv.widenOk_yes c0]; simp only [Iv.widen]; first | (rw [if_neg c1]; done) | (rw [List.take_of_length_le (by omega), if_pos c4]; done))
      have hc51 := eq2 (fun z1 z2 => some (k2 + 1 + 1, k48 + 1, O.box [.d (.v (.int .i64 (z1))), .d (.v (.int .i64 (z2)))])) e49 e50
      exact fin0 (.inr rfl) (.cell (cells := [.d (.v (.int .i64 ((Iv.widenOk l a b).lo))), .d (.v (.int .i64 ((Iv.widenOk l a b).hi)))]) rfl hc51 t119 rfl rfl .nil) (.dd (.dd .nil)) rfl
   ·have c4 := of_decide_eq_false c4
    refine .skip <| .seq <| .rs fun k52 => .lda t119 rfl (.ptr _ _ _ _ _ rfl) rfl <| .g (fun _ τ => ⟨_, .store (.no rfl) rfl t119 rfl rfl rfl rfl rfl rfl rfl rfl rfl τ⟩) <| .z <| .ret ?_
    have e53 : (a.lo) = ((Iv.widenOk l a b).lo) := by (rw [Iv.widenOk_yes c0]; simp only [Iv.widen]; first | (rw [if_neg c1]; done) | (rw [if_neg c4]; done))
    have e54 : (a.hi) = ((Iv.widenOk l a b).hi) := by (rw [Iv.widenOk_yes c0]; simp only [Iv.widen]; first | (rw [if_neg c1]; done) | (rw [if_neg c4]; done))
    have hc55 := eq2 (fun z1 z2 => some (k2 + 1 + 1, k52 + 1, O.box [.d (.v (.int .i64 (z1))), .d (.v (.int .i64 (z2)))])) e53 e54
    exact fin0 (.inr rfl) (.cell (cells := [.d (.v (.int .i64 ((Iv.widenOk l a b).lo))), .d (.v (.int .i64 ((Iv.widenOk l a b).hi)))]) rfl hc55 t119 rfl rfl .nil) (.dd (.dd .nil)) rfl
end Go.Proofs

namespace Go.Proofs
open Go Go.Proofs Go.Ev

theorem c_l6Widen (a : Env) (b : Env) (l : List Int) (hj : a.live = true → b.live = true → a.ints.length = b.ints.length ∧ a.arrs.length = b.arrs.length) (hb : a.ints.length ≤ 1048576 ∧ a.arrs.length ≤ 1048576 ∧ b.ints.length ≤ 1048576 ∧ b.arrs.length ≤ 1048576) : Trip Tryz.prog 186 [(true, 3), (true, 3), (false, 1)] (Env.c98 a ++ Env.c98 b ++ [.sl false 2 1 (List.map i64c (l))]) [(true, 3)] [.v (.bool ((Env.joinW (fun x y => Iv.widenOk l x y) a b).live)), .sl true 119 2 (List.map Iv.c ((Env.joinW (fun x y => Iv.widenOk l x y) a b).ints)), .sl true 119 2 (List.map Iv.c ((Env.joinW (fun x y => Iv.widenOk l x y) a b).arrs))] [] := by
 refine Trip.of Tryz.func186 (by decide) (c := _) rfl rfl (Nat.le_of_ble_eq_true rfl) rfl (AftOk.nil _) <| .sla (t := 0) 1 rfl rfl fun hs1l => .sla (t := 0) 2 rfl rfl fun hs2l => .sla (t := 1) 1 rfl rfl fun hs3l => .sla (t := 1) 2 rfl rfl fun hs4l => .sl (t := 2) rfl fun hs5l => .seq <| .rs fun k6 => .g (fun _ τ => ⟨_, .box (.no rfl) rfl rfl rfl rfl rfl τ⟩) ?_
 refine .g (fun _ τ => ⟨_, .box (.no rfl) rfl rfl rfl rfl rfl τ⟩) <| .g (fun _ τ => ⟨_, .alloc (.no rfl) rfl z98 rfl rfl rfl τ⟩) <| .z <| .seq <| .seq ?_
 refine .reg (X := Unit) (fun ζ => .of [(2, .one (.d (.sl false 2 1 (List.map i64c (l))))), (3, .one (.ptr [3] (k6) 0)), (4, .one (.ptr [4] (k6 + 1) 0)), (6, .one (.ptr [6] (k6 + 1 + 1) 0)), (18, .one (.d (.v (.bool ((!a.live || !b.live))))))] [([3], (k6, k6, .box [.d (.v (.bool (a.live))), .d (.sl false 119 2 (List.map Iv.c (a.ints))), .d (.sl false 119 2 (List.map Iv.c (a.arrs)))])), ([4], (k6 + 1, k6 + 1, .box [.d (.v (.bool (b.live))), .d (.sl false 119 2 (List.map Iv.c (b.ints))), .d (.sl false 119 2 (List.map Iv.c (b.arrs)))])), ([6], (k6 + 1 + 1, k6 + 1 + 1, .box [.d (.v (.bool (false))), .d (.v (.slice none 0 0)), .d (.v (.slice none 0 0))]))]) [⟨[3], some 11, [], []⟩, ⟨[11], some 12, [[3]], []⟩, ⟨[12], some 13, [], []⟩, ⟨[13], some 14, [], []⟩, ⟨[14, 4], some 15, [], []⟩, ⟨[14, 15], some 16, [[4]], []⟩, ⟨[14, 16], some 17, [], []⟩, ⟨[14, 17], some 18, [], []⟩] (fun k7 => ?_) ?_
 ·skip
  refine .fieldAddrP (.no rfl) rfl t98 rfl rfl t4 rfl rfl rfl rfl <| .load (.no rfl) rfl t4 rfl rfl (.ptr _ _ _ _ _ rfl) rfl rfl rfl rfl <| .un (.no rfl) rfl rfl rfl rfl rfl <| .moveB (.no rfl) rfl rfl rfl rfl fun b8 g1_3 => ?_
  cases b8
  ·skip
   refine .fieldAddrP (.on rfl rfl rfl rfl rfl) rfl t98 rfl rfl t4 rfl rfl rfl rfl <| .load (.on rfl rfl rfl rfl rfl) rfl t4 rfl rfl (.ptr _ _ _ _ _ rfl) rfl rfl rfl rfl <| .un (.on rfl rfl rfl rfl rfl) rfl rfl rfl rfl rfl <| .pick (.no rfl) rfl rfl rfl rfl rfl ?_
   exact .fin () (.of (.cons rfl (.cons rfl (.cons rfl (.cons rfl (.cons (svB (show (!b.live) = ((!a.live || !b.live)) by first | (simp only [g1_3, Bool.true_or, Bool.false_or, Bool.true_and, Bool.false_and, Bool.not_true, Bool.not_false]; done) | (simp [g1_3]; done) | (exfalso; simp_all; done))) .nil))))) (.r rfl))
  ·skip
   refine .off rfl rfl rfl rfl rfl rfl rfl <| .off rfl rfl rfl rfl rfl rfl rfl <| .off rfl rfl rfl rfl rfl rfl rfl <| .pick (.no rfl) rfl rfl rfl rfl rfl ?_
   exact .fin () (.of (.cons rfl (.cons rfl (.cons rfl (.cons rfl (.cons (svB (show (true) = ((!a.live || !b.live)) by first | (simp only [g1_3, Bool.true_or, Bool.false_or, Bool.true_and, Bool.false_and, Bool.not_true, Bool.not_false]; done) | (simp [g1_3]; done) | (exfalso; simp_all; done))) .nil))))) (.r rfl))
 intro _
 refine .cond (t := (!a.live || !b.live)) rfl (fun c0 => ?_) (fun c0 => ?_)
 ·have c0 := (oT (nT id) (nT id)) c0
  refine .seq <| .rs fun k9 => .lda t98 rfl (.ptr _ _ _ _ _ rfl) rfl <| .lda t98 rfl (.ptr _ _ _ _ _ rfl) rfl <| .c0 (c_l6Join a b (by first | assumption | omega | (rw [zip2To_len]; simp at hI c1 ⊢; omega)) (by first | assumption | omega | (rw [zip2To_len]; simp at hI c1 ⊢; omega))) rfl (.dd (.dd (.dd (.dd (.dd (.dd .nil)))))) (.own [21, 0] (.own [21, 1] (.own [21, 2] .nil))) rfl <| .g (fun _ τ => ⟨_, .store (.no rfl) rfl t98 rfl rfl rfl rfl rfl rfl rfl rfl rfl τ⟩) <| .z <| .ret ?_
  have e10 : ((Env.join a b).live) = ((Env.joinW (fun x y => Iv.widenOk l x y) a b).live) := by (rw [Env.joinW_dead c0])
  have e11 : ((Env.join a b).ints) = ((Env.joinW (fun x y => Iv.widenOk l x y) a b).ints) := by (rw [Env.joinW_dead c0])
  have e12 : ((Env.join a b).arrs) = ((Env.joinW (fun x y => Iv.widenOk l x y) a b).arrs) := by (rw [Env.joinW_dead c0])
  have hc13 := eq1 (fun z1 => some (k6 + 1 + 1, k9 + 1 + 1 + 1, O.box [.d (.v (.bool (z1))), .ref [21, 1] (k9 + 1 + 1), .ref [21, 2] (k9 + 1 + 1)])) e10
  exact fin1 (.inr rfl) [] [([21, 1], (k9 + 1 + 1, k9 + 1 + 1, .row 119 2 (List.map Iv.c ((Env.joinW (fun x y => Iv.widenOk l x y) a b).ints)))), ([21, 2], (k9 + 1 + 1, k9 + 1 + 1, .row 119 2 (List.map Iv.c ((Env.joinW (fun x y => Iv.widenOk l x y) a b).arrs))))] (.cell (cells := [.d (.v (.bool ((Env.joinW (fun x y => Iv.widenOk l x y) a b).live))), .ref [21, 1] (k9 + 1 + 1), .ref [21, 2] (k9 + 1 + 1)]) rfl hc13 t98 rfl rfl .nil) (.dd (.cons (.ref (.head _)) (.cons (.ref (.tail _ (.head _))) .nil))) rfl rfl (.cons (rowE (congrArg (List.map Iv.c) e11)) (.cons (rowE (congrArg (List.map Iv.c) e12)) .nil))
 ·have c0 := (oF (nF id) (nF id)) c0
  refine .skip <| .seq <| .rs fun k14 => .lda t98 rfl (.ptr _ _ _ _ _ rfl) rfl <| .c0 (c_l6List a (by first | assumption | omega | (rw [zip2To_len]; simp at hI c1 ⊢; omega))) rfl (.dd (.dd (.dd .nil))) (.frz [23, 0] (Frz.of_erase (erase_slo _ _ _ _ _ _ Iv.c_e)) .nil) rfl <| .as rfl <| .z <| .seq <| .rs fun k15 => ?_
  refine .lda t98 rfl (.ptr _ _ _ _ _ rfl) rfl <| .c0 (c_l6List b (by first | assumption | omega | (rw [zip2To_len]; simp at hI c1 ⊢; omega))) rfl (.dd (.dd (.dd .nil))) (.frz [25, 0] (Frz.of_erase (erase_slo _ _ _ _ _ _ Iv.c_e)) .nil) rfl <| .as rfl <| .z <| .seq <| .rs fun k16 => .g (fun _ τ => ⟨_, .buildSlice (.no rfl) rfl (els := []) t96 rfl z119 rfl rfl rfl rfl rfl rfl rfl rfl (by simp [i119]) .nil rfl rfl rfl τ⟩) <| .as rfl <| .z ?_
  refine .seq <| .seq <| .rs fun k17 => .as rfl <| .z <| .block ?_
  refine .loop (X := Nat × Nat × Nat) (fun ζ => .of [(2, .one (.d (.sl false 2 1 (List.map i64c (l))))), (3, .one (.ptr [3] (k6) 0)), (6, .one (.ptr [6] (k6 + 1 + 1) 0)), (7, .one (.d (.sl false 119 2 (List.map Iv.c (a.ints ++ a.arrs))))), (8, .one (.d (.sl false 119 2 (List.map Iv.c (b.ints ++ b.arrs))))), (9, .one (.ref [26] (ζ.2.1))), (10, .one (.d (.v (.int .i64 ((ζ.1 : Int))))))] [([3], (k6, k6, .box [.d (.v (.bool (a.live))), .d (.sl false 119 2 (List.map Iv.c (a.ints))), .d (.sl false 119 2 (List.map Iv.c (a.arrs)))])), ([6], (k6 + 1 + 1, k6 + 1 + 1, .box [.d (.v (.bool (false))), .d (.v (.slice none 0 0)), .d (.v (.slice none 0 0))])), ([26], (ζ.2.1, ζ.2.2, .row 119 2 (List.map Iv.c (zip2To (fun x y => Iv.widenOk l x y) (a.ints ++ a.arrs) (b.ints ++ b.arrs) ζ.1))))]) (fun ζ => ζ.1 ≤ (a.ints ++ a.arrs).length) (fun ζ => (a.ints ++ a.arrs).length - ζ.1) ?_ ?_
  ·skip
   exact .here (0, k16, k16) (.of (.cons rfl (.cons rfl (.cons rfl (.cons rfl (.cons rfl (.cons rfl (.cons (svI (show (0) = ((0 : Int)) by first | rfl | omega | exact wrap_le (by omega) (by omega) | (rw [wrap_le (by omega) (by omega)]; omega))) .nil))))))) (.cons rfl (.cons rfl (.cons (rowE (show [] = List.map Iv.c (zip2To (fun x y => Iv.widenOk l x y) (a.ints ++ a.arrs) (b.ints ++ b.arrs) 0) by first | rfl | exact congrArg _ (zip2To_step (fun x y => Iv.widenOk l x y) _ _ _))) .nil)))) (show 0 ≤ (a.ints ++ a.arrs).length by omega)
  ·rintro ⟨j, q18, q19⟩ hI
   have hI : j ≤ (a.ints ++ a.arrs).length := hI
   have hn9 : (a.ints ++ a.arrs).length ≤ 3145728 := by simp; omega
   have hn8 : (a.ints ++ a.arrs).length = (b.ints ++ b.arrs).length := by have := hj c0.1 c0.2; simp; omega
   have hn7 := zip2To_len (fun x y => Iv.widenOk l x y) (a.ints ++ a.arrs) (b.ints ++ b.arrs) j
   dsimp only
   refine .seq <| .seq <| .rs fun k20 => .mv rfl <| .mv rfl <| .g (fun _ τ => ⟨_, .len (.no rfl) rfl (z := ((a.ints ++ a.arrs).length : Int)) t96 rfl rfl rfl (.d _ _) (map_len _ _) rfl τ⟩) <| .bi rfl <| .z ?_
   refine .cond (t := decide ((j : Int) < ((a.ints ++ a.arrs).length : Int))) rfl (fun c1 => ?_) (fun c1 => ?_)
   ·have c1 := of_decide_eq_true c1
    refine .skip <| .seq <| .block ?_
    refine .regD (X := Nat) (by kernel_rfl) (fun ζ => .of [(2, .one (.d (.sl false 2 1 (List.map i64c (l))))), (3, .one (.ptr [3] (k6) 0)), (6, .one (.ptr [6] (k6 + 1 + 1) 0)), (7, .one (.d (.sl false 119 2 (List.map Iv.c (a.ints ++ a.arrs))))), (8, .one (.d (.sl false 119 2 (List.map Iv.c (b.ints ++ b.arrs))))), (9, .one (.ref [26] (ζ))), (10, .one (.d (.v (.int .i64 ((j : Int))))))] [([3], (k6, k6, .box [.d (.v (.bool (a.live))), .d (.sl false 119 2 (List.map Iv.c (a.ints))), .d (.sl false 119 2 (List.map Iv.c (a.arrs)))])), ([6], (k6 + 1 + 1, k6 + 1 + 1, .box [.d (.v (.bool (false))), .d (.v (.slice none 0 0)), .d (.v (.slice none 0 0))])), ([26], (ζ, ζ, .row 119 2 (List.map Iv.c (zip2To (fun x y => Iv.widenOk l x y) (a.ints ++ a.arrs) (b.ints ++ b.arrs) j ++ [(Iv.widenOk l ((a.ints ++ a.arrs).getD (j) default) ((b.ints ++ b.arrs).getD (j) default))]))))]) [⟨[9], some 33, [], []⟩, ⟨[7], some 34, [], []⟩, ⟨[10], some 35, [], []⟩, ⟨[34, 35], some 36, [], []⟩, ⟨[36], some 37, [], []⟩, ⟨[8], some 38, [], []⟩, ⟨[10], some 39, [], []⟩, ⟨[38, 39], some 40, [], []⟩, ⟨[40], some 41, [], []⟩, ⟨[2], some 42, [], []⟩, ⟨[37, 41, 42], some 43, [], []⟩, ⟨[43], some 44, [], [[44]]⟩, ⟨[33, 44], some 45, [[26], [44]], [[44], [26]]⟩, ⟨[45], some 9, [], []⟩] (by kernel_rfl) (fun k21 => ?_) ?_
    ·skip
     refine .move (.no rfl) rfl rfl rfl rfl <| .move (.no rfl) rfl rfl rfl rfl <| .move (.no rfl) rfl rfl rfl rfl <| .indexAddr (.no rfl) rfl (j) t96 rfl t119 rfl rfl rfl (.d _ _) rfl rfl rfl (map_get (by omega)) rfl rfl <| .load (.no rfl) rfl t119 rfl rfl (.d _) rfl rfl rfl rfl <| .move (.no rfl) rfl rfl rfl rfl <| .move (.no rfl) rfl rfl rfl rfl <| .indexAddr (.no rfl) rfl (j) t96 rfl t119 rfl rfl rfl (.d _ _) rfl rfl rfl (map_get (by omega)) rfl rfl <| .load (.no rfl) rfl t119 rfl rfl (.d _) rfl rfl rfl rfl ?_
     refine .move (.no rfl) rfl rfl rfl rfl <| .call (.no rfl) rfl [] [] (c_sIvWiden ((a.ints ++ a.arrs).getD (j) default) ((b.ints ++ b.arrs).getD (j) default) l) rfl rfl rfl rfl rfl (.dd (.dd (.dd (.dd (.dd .nil))))) rfl rfl (fun h => absurd rfl h) (.own [43, 0] (.own [43, 1] .nil)) (.nil) rfl rfl rfl (by simp) rfl rfl rfl <| .buildSlice (.no rfl) rfl (els := [[.v (.int .i64 ((Iv.widenOk l ((a.ints ++ a.arrs).getD (j) default) ((b.ints ++ b.arrs).getD (j) default)).lo)), .v (.int .i64 ((Iv.widenOk l ((a.ints ++ a.arrs).getD (j) default) ((b.ints ++ b.arrs).getD (j) default)).hi))]]) t96 rfl z119 rfl rfl rfl rfl rfl rfl rfl rfl (by simp [i119]) (.cons _ _ _ _ _ _ (.d _) (.cons _ _ _ _ _ _ (.d _) .nil)) rfl rfl rfl ?_
     refine .append (.no rfl) rfl (l3 := List.map Iv.c (zip2To (fun x y => Iv.widenOk l x y) (a.ints ++ a.arrs) (b.ints ++ b.arrs) j ++ [(Iv.widenOk l ((a.ints ++ a.arrs).getD (j) default) ((b.ints ++ b.arrs).getD (j) default))])) t96 rfl z119 rfl rfl rfl rfl rfl rfl rfl rfl (.ref _ _ _ _ rfl) (.take _ _ _ _ _ rfl) rfl (by simp [i119]; omega) (map_snoc _ _ _) rfl rfl <| .assign (.no rfl) rfl rfl rfl rfl ?_
     exact .fin (k21 + 1 + 1 + 1 + 1 + 1 + 1 + 1 + 1 + 1 + 1 + 1 + 1) (.of (.r rfl) (.r rfl))
    intro g22
    refine .rs fun k23 => .mv rfl <| .bi rfl <| .as rfl <| .z ?_
    exact .here ((j + 1), g22, g22) (.of (.cons rfl (.cons rfl (.cons rfl (.cons rfl (.cons rfl (.cons rfl (.cons (svI (show (IntKind.wrap .i64 ((j : Int) + 1)) = (((j + 1) : Int)) by first | rfl | omega | exact wrap_le (by omega) (by omega) | (rw [wrap_le (by omega) (by omega)]; omega))) .nil))))))) (.cons rfl (.cons rfl (.cons (rowE (show List.map Iv.c (zip2To (fun x y => Iv.widenOk l x y) (a.ints ++ a.arrs) (b.ints ++ b.arrs) j ++ [(Iv.widenOk l ((a.ints ++ a.arrs).getD (j) default) ((b.ints ++ b.arrs).getD (j) default))]) = List.map Iv.c (zip2To (fun x y => Iv.widenOk l x y) (a.ints ++ a.arrs) (b.ints ++ b.arrs) (j + 1)) by first | rfl | exact congrArg _ (zip2To_step (fun x y => Iv.widenOk l x y) _ _ _))) .nil)))) ⟨(show (j + 1) ≤ (a.ints ++ a.arrs).length by omega), (show (a.ints ++ a.arrs).length - (j + 1) < (a.ints ++ a.arrs).length - j by omega)⟩
   ·have c1 := of_decide_eq_false c1
    refine .exit <| .seq <| .rs fun k24 => .mv rfl <| .fp t98 t96 rfl <| .ld t96 rfl (.ptr _ _ _ _ _ rfl) rfl <| .g (fun _ τ => ⟨_, .len (.no rfl) rfl (z := (a.ints.length : Int)) t96 rfl rfl rfl (.d _ _) (map_len _ _) rfl τ⟩) ?_
    refine .g (fun _ τ => ⟨_, .call (.no rfl) rfl [[26]] [([26], (q18, q19, .row 119 2 (List.map Iv.c (zip2To (fun x y => Iv.widenOk l x y) (a.ints ++ a.arrs) (b.ints ++ b.arrs) j))))] (c_l6Of (zip2To (fun x y => Iv.widenOk l x y) (a.ints ++ a.arrs) (b.ints ++ b.arrs) j) a.ints.length (by first | assumption | omega | (rw [zip2To_len]; simp at hI c1 ⊢; omega))) rfl rfl rfl rfl rfl (.cons (Reads.ref (Frz.of_erase (erase_slo _ _ _ _ _ _ Iv.c_e)) (.head _) (.head _)).gives (.dd .nil)) rfl rfl (fun _ => (ownCons (Owned.v _) (ownCons (Owned.map _ _ _ _ Iv.c_o) (ownCons (Owned.map _ _ _ _ Iv.c_o) ownNil)))) (.own [50, 0] (.own [50, 1] (.own [50, 2] .nil))) (.nil) rfl rfl rfl (AllH.get (.r rfl)) rfl rfl rfl τ⟩) <| .g (fun _ τ => ⟨_, .store (.no rfl) rfl t98 rfl rfl rfl rfl rfl rfl rfl rfl rfl τ⟩) <| .z <| .ret ?_
    have e25 : ((Env.mk true ((zip2To (fun x y => Iv.widenOk l x y) (a.ints ++ a.arrs) (b.ints ++ b.arrs) j).take a.ints.length) ((zip2To (fun x y => Iv.widenOk l x y) (a.ints ++ a.arrs) (b.ints ++ b.arrs) j).drop a.ints.length)).live) = ((Env.joinW (fun x y => Iv.widenOk l x y) a b).live) := by (have hj9 := hj c0.1 c0.2; first | (rw [Env.joinW_live c0]; done) | skip; rw [Env.joinW_live c0]; first | rfl | (rw [zip2To_all (fun x y => Iv.widenOk l x y) hI (by omega)]; exact zip2_take _ hj9.1) | (rw [zip2To_all (fun x y => Iv.widenOk l x y) hI (by omega)]; exact zip2_drop _ hj9.1))
    have e26 : ((Env.mk true ((zip2To (fun x y => Iv.widenOk l x y) (a.ints ++ a.arrs) (b.ints ++ b.arrs) j).take a.ints.length) ((zip2To (fun x y => Iv.widenOk l x y) (a.ints ++ a.arrs) (b.ints ++ b.arrs) j).drop a.ints.length)).ints) = ((Env.joinW (fun x y => Iv.widenOk l x y) a b).ints) := by (have hj9 := hj c0.1 c0.2; first | (rw [Env.joinW_live c0]; done) | skip; rw [Env.joinW_live c0]; first | rfl | (rw [zip2To_all (fun x y => Iv.widenOk l x y) hI (by omega)]; exact zip2_take _ hj9.1) | (rw [zip2To_all (fun x y => Iv.widenOk l x y) hI (by omega)]; exact zip2_drop _ hj9.1))
    have e27 : ((Env.mk true ((zip2To (fun x y => Iv.widenOk l x y) (a.ints ++ a.arrs) (b.ints ++ b.arrs) j).take a.ints.length) ((zip2To (fun x y => Iv.widenOk l x y) (a.ints ++ a.arrs) (b.ints ++ b.arrs) j).drop a.ints.length)).arrs) = ((Env.joinW (fun x y => Iv.widenOk l x y) a b).arrs) := by (have hj9 := hj c0.1 c0.2; first | (rw [Env.joinW_live c0]; done) | skip; rw [Env.joinW_live c0]; first | rfl | (rw [zip2To_all (fun x y => Iv.widenOk l x y) hI (by omega)]; exact zip2_take _ hj9.1) | (rw [zip2To_all (fun x y => Iv.widenOk l x y) hI (by omega)]; exact zip2_drop _ hj9.1))
    have hc28 := eq1 (fun z1 => some (k6 + 1 + 1, k24 + 1 + 1 + 1 + 1 + 1, O.box [.d (.v (.bool (z1))), .ref [50, 1] (k24 + 1 + 1 + 1 + 1), .ref [50, 2] (k24 + 1 + 1 + 1 + 1)])) e25
    exact fin1 (.inr rfl) [] [([50, 1], (k24 + 1 + 1 + 1 + 1, k24 + 1 + 1 + 1 + 1, .row 119 2 (List.map Iv.c ((Env.joinW (fun x y => Iv.widenOk l x y) a b).ints)))), ([50, 2], (k24 + 1 + 1 + 1 + 1, k24 + 1 + 1 + 1 + 1, .row 119 2 (List.map Iv.c ((Env.joinW (fun x y => Iv.widenOk l x y) a b).arrs))))] (.cell (cells := [.d (.v (.bool ((Env.joinW (fun x y => Iv.widenOk l x y) a b).live))), .ref [50, 1] (k24 + 1 + 1 + 1 + 1), .ref [50, 2] (k24 + 1 + 1 + 1 + 1)]) rfl hc28 t98 rfl rfl .nil) (.dd (.cons (.ref (.head _)) (.cons (.ref (.tail _ (.head _))) .nil))) rfl rfl (.cons (rowE (congrArg (List.map Iv.c) e26)) (.cons (rowE (congrArg (List.map Iv.c) e27)) .nil))
end Go.Proofs

namespace Go.Proofs
open Go Go.Proofs Go.Ev

theorem c_widening1 (x : Iv) (y : Iv) (l : List Int) : Trip Tryz.prog 107 [(true, 2), (true, 2), (false, 1)] (Iv.c x ++ Iv.c y ++ [.pt false [.sl false 2 1 (List.map i64c (l))]]) [(true, 2)] [.v (.int .i64 ((Iv.widenOk l x y).lo)), .v (.int .i64 ((Iv.widenOk l x y).hi))] [] := by
 refine Trip.of Tryz.func107 (by decide) (c := _) rfl rfl (Nat.le_of_ble_eq_true rfl) rfl (AftOk.nil _) <| .seq <| .rs fun k1 => .g (fun _ τ => ⟨_, .box (.no rfl) rfl rfl rfl rfl rfl τ⟩) <| .g (fun _ τ => ⟨_, .box (.no rfl) rfl rfl rfl rfl rfl τ⟩) <| .g (fun _ τ => ⟨_, .alloc (.no rfl) rfl z119 rfl rfl rfl τ⟩) <| .z <| .seq <| .rs fun k2 => ?_
 refine .lda t119 rfl (.ptr _ _ _ _ _ rfl) rfl <| .lda t119 rfl (.ptr _ _ _ _ _ rfl) rfl <| .ld t41 rfl (.d _) rfl <| .c0 (c_IvWiden x y l) rfl (.dd (.dd (.dd (.dd (.dd .nil))))) (.own [9, 0] (.own [9, 1] .nil)) rfl <| .g (fun _ τ => ⟨_, .store (.no rfl) rfl t119 rfl rfl rfl rfl rfl rfl rfl rfl rfl τ⟩) <| .z <| .ret ?_
 exact fin0 (.inr rfl) (.cell (cells := [.d (.v (.int .i64 ((Iv.widenOk l x y).lo))), .d (.v (.int .i64 ((Iv.widenOk l x y).hi)))]) rfl rfl t119 rfl rfl .nil) (.dd (.dd .nil)) rfl
theorem c_widening (l : List Int) : Trip Tryz.prog 59 [(false, 1)] ([.sl false 2 1 (List.map i64c (l))]) [(false, 1)] [.fn 107 [] [.pt false [.sl false 2 1 (List.map i64c (l))]]] [] := by
 refine Trip.of Tryz.func59 (by decide) (c := _) rfl rfl (Nat.le_of_ble_eq_true rfl) rfl (AftOk.nil _) <| .sl (t := 0) rfl fun hs1l => .seq <| .rs fun k2 => .g (fun _ τ => ⟨_, .box (.no rfl) rfl rfl rfl rfl rfl τ⟩) <| .as rfl <| .z <| .seq <| .rs fun k3 => ?_
 refine .g (fun _ τ => ⟨_, .makeFunc (.no rfl) rfl rfl rfl rfl rfl τ⟩) <| .as rfl <| .z <| .ret ?_
 exact fin1 (.inr rfl) [[1]] [([1], (k2, k2, .box [.d (.sl false 2 1 (List.map i64c (l)))]))] (.one rfl .nil) (.cons (Reads.clo0 (.cons (Reads.ptr0 (.head _) (.head _) (.cons (Reads.d _) .nil)) .nil)).gives .nil) rfl rfl (.r rfl)
end Go.Proofs

namespace Go.Proofs
open Go Go.Proofs Go.Ev

def Entry.c (x : Entry) : List D := [.v (.int .i64 (x.line)), .v (.int .i64 (x.pick))]
theorem Entry.c_o (x : Entry) : ∀ d ∈ Entry.c x, Owned d := by simp [Entry.c, Owned.v]
theorem Entry.c_e (x : Entry) : (Entry.c x).map D.erase = Entry.c x := by simp [Entry.c, D.erase_v]
def Part.c74 (x : Part) : List D := [.sl false 175 2 (List.map Entry.c (x.token)), .sl false 170 3 (List.map Env.c170 (x.table))]
theorem Part.c74_e (x : Part) : (Part.c74 x).map D.erase = Part.c74 x := by simp [Part.c74, D.erase_v, erase_slo _ _ _ _ _ _ Entry.c_e, erase_slo _ _ _ _ _ _ Env.c170_e]
def Part.co74 (x : Part) : List D := [.sl true 175 2 (List.map Entry.c (x.token)), .sl true 170 3 (List.map Env.co170 (x.table))]
theorem Part.co74_e (x : Part) : (Part.co74 x).map D.erase = Part.c74 x := by simp [Part.co74, Part.c74, D.erase_v, erase_slo _ _ _ _ _ _ Entry.c_e, erase_slo _ _ _ _ _ _ Env.co170_e]
theorem Part.co74_o (x : Part) : ∀ d ∈ Part.co74 x, Owned d := by simp [Part.co74, Owned.v, Owned.map _ _ _ _ Entry.c_o, Owned.map _ _ _ _ Env.co170_o]
def i26 : TI := ⟨.sl 74, 1, 24, [.slice none 0 0]⟩
theorem t26 : TyOk Tryz.prog 26 i26 := ⟨Tryz.underlying26, by kernel_rfl⟩
theorem z26 : ZOk Tryz.prog 26 i26 := ⟨t26, rfl⟩
def i71 : TI := ⟨.sl 175, 1, 24, [.slice none 0 0]⟩
theorem t71 : TyOk Tryz.prog 71 i71 := ⟨Tryz.underlying71, by kernel_rfl⟩
theorem z71 : ZOk Tryz.prog 71 i71 := ⟨t71, rfl⟩
def i72 : TI := ⟨.sl 170, 1, 24, [.slice none 0 0]⟩
theorem t72 : TyOk Tryz.prog 72 i72 := ⟨Tryz.underlying72, by kernel_rfl⟩
theorem z72 : ZOk Tryz.prog 72 i72 := ⟨t72, rfl⟩
def i74 : TI := ⟨.st [(0, 71), (1, 72)], 2, 48, [.slice none 0 0, .slice none 0 0]⟩
theorem t74 : TyOk Tryz.prog 74 i74 := ⟨⟨_, Tryz.underlying74, rfl⟩, by kernel_rfl⟩
theorem z74 : ZOk Tryz.prog 74 i74 := ⟨t74, rfl⟩
theorem p74 : Places Tryz.prog [(0, 71), (1, 72)] [(0, 1), (1, 1)] := by unfold Places; kernel_rfl
theorem c_szEntryS (a : List Entry) (left : Int) (hl : 0 ≤ left ∧ left ≤ 1048576) : Trip Tryz.prog 89 [(false, 1), (false, 1)] ([.sl false 175 2 (List.map Entry.c (a))] ++ [.v (.int .i64 (left))]) [(false, 1)] [.v (.int .i64 (szPl a left))] [] := by
 refine Trip.of Tryz.func89 (by decide) (c := _) rfl rfl (Nat.le_of_ble_eq_true rfl) rfl (AftOk.nil _) <| .sl (t := 0) rfl fun hs1l => .seq <| .rs fun k2 => .as rfl <| .z <| .seq <| .rs fun k3 => .mv rfl ?_
 refine .mv rfl <| .g (fun _ τ => ⟨_, .len (.no rfl) rfl (z := (a.length : Int)) t71 rfl rfl rfl (.d _ _) (map_len _ _) rfl τ⟩) <| .bi rfl <| .as rfl <| .z <| .seq <| .seq <| .rs fun k4 => .mv rfl ?_
 refine .bi rfl <| .z ?_
 refine .cond (t := decide ((IntKind.wrap .i64 (left - (a.length : Int))) < 0)) rfl (fun c0 => ?_) (fun c0 => ?_)
 ·have c0 := of_decide_eq_true c0
  refine .seq <| .rs fun k5 => .as rfl <| .z <| .ret ?_
  exact fin0 (.inr rfl) (.one (svI (show (-1) = (szPl a left) by (rw [wrap_le (by omega) (by omega)] at c0; simp only [szPl]; rw [if_pos c0]))) .nil) (.dd .nil) rfl
 ·have c0 := of_decide_eq_false c0
  refine .skip <| .seq <| .rs fun k7 => .mv rfl <| .as rfl <| .z <| .ret ?_
  exact fin0 (.inr rfl) (.one (svI (show (IntKind.wrap .i64 (left - (a.length : Int))) = (szPl a left) by (rw [wrap_le (by omega) (by omega)] at c0 ⊢; simp only [szPl]; rw [if_neg c0]))) .nil) (.dd .nil) rfl
theorem c_szEnvS (a : List Env) (left : Int) (hl : 0 ≤ left ∧ left ≤ 1048576) : Trip Tryz.prog 90 [(false, 1), (false, 1)] ([.sl false 170 3 (List.map Env.c170 (a))] ++ [.v (.int .i64 (left))]) [(false, 1)] [.v (.int .i64 (szEnvS a left))] [] := by
 refine Trip.of Tryz.func90 (by decide) (c := _) rfl rfl (Nat.le_of_ble_eq_true rfl) rfl (AftOk.nil _) <| .sl (t := 0) rfl fun hs1l => .seq <| .rs fun k2 => .as rfl <| .z <| .seq <| .rs fun k3 => .mv rfl ?_
 refine .mv rfl <| .g (fun _ τ => ⟨_, .len (.no rfl) rfl (z := (a.length : Int)) t72 rfl rfl rfl (.d _ _) (map_len _ _) rfl τ⟩) <| .bi rfl <| .as rfl <| .z <| .seq <| .seq <| .rs fun k4 => .mv rfl ?_
 refine .bi rfl <| .z ?_
 refine .cond (t := decide ((IntKind.wrap .i64 (left - (a.length : Int))) < 0)) rfl (fun c0 => ?_) (fun c0 => ?_)
 ·have c0 := of_decide_eq_true c0
  refine .seq <| .rs fun k5 => .as rfl <| .z <| .ret ?_
  exact fin0 (.inr rfl) (.one (svI (show (-1) = (szEnvS a left) by (rw [wrap_le (by omega) (by omega)] at c0; simp only [szEnvS]; rw [if_pos c0]))) .nil) (.dd .nil) rfl
 ·have c0 := of_decide_eq_false c0
  refine .skip <| .seq <| .seq <| .rs fun k7 => .as rfl <| .z <| .block ?_
  refine .loop (X := Nat × Int) (fun ζ => .of [(0, .one (.d (.sl false 170 3 (List.map Env.c170 (a))))), (1, .one (.d (.v (.int .i64 (ζ.2))))), (5, .one (.d (.v (.int .i64 ((ζ.1 : Int))))))] []) (fun ζ => ζ.1 ≤ a.length ∧ 0 ≤ ζ.2 ∧ ζ.2 ≤ 1048576 ∧ ¬ left - a.length < 0 ∧ szF szEnv ζ.2 (a.drop ζ.1) = szF szEnv (left - a.length) a) (fun ζ => a.length - ζ.1) ?_ ?_
  ·skip
   exact .here (0, (left - a.length)) (.of (.cons rfl (.cons (svI (show (IntKind.wrap .i64 (left - (a.length : Int))) = ((left - a.length)) by first | rfl | omega | exact wrap_le (by omega) (by omega) | (rw [wrap_le (by omega) (by omega)]; omega))) (.cons (svI (show (0) = ((0 : Int)) by first | rfl | omega | exact wrap_le (by omega) (by omega) | (rw [wrap_le (by omega) (by omega)]; omega))) .nil))) .nil) (show 0 ≤ a.length ∧ 0 ≤ (left - a.length) ∧ (left - a.length) ≤ 1048576 ∧ ¬ left - a.length < 0 ∧ szF szEnv (left - a.length) (a.drop 0) = szF szEnv (left - a.length) a by (rw [wrap_le (by omega) (by omega)] at c0; exact ⟨by omega, by omega, by omega, c0, by simp⟩))
  ·rintro ⟨j, v⟩ hI
   have hI : j ≤ a.length ∧ 0 ≤ v ∧ v ≤ 1048576 ∧ ¬ left - a.length < 0 ∧ szF szEnv v (a.drop j) = szF szEnv (left - a.length) a := hI
   dsimp only
   refine .seq <| .seq <| .rs fun k8 => .mv rfl <| .mv rfl <| .g (fun _ τ => ⟨_, .len (.no rfl) rfl (z := (a.length : Int)) t72 rfl rfl rfl (.d _ _) (map_len _ _) rfl τ⟩) <| .bi rfl <| .z ?_
   refine .cond (t := decide ((j : Int) < (a.length : Int))) rfl (fun c1 => ?_) (fun c1 => ?_)
   ·have c1 := of_decide_eq_true c1
    refine .skip <| .seq <| .block <| .seq <| .rs fun k9 => .mv rfl <| .mv rfl <| .g (fun _ τ => ⟨_, .indexAddr (.no rfl) rfl (j) t72 rfl t170 rfl rfl rfl (.d _ _) rfl rfl rfl (map_get (by omega)) rfl rfl τ⟩) <| .lda t170 rfl (.d _) rfl ?_
    refine .mv rfl <| .c0 (c_szEnv (a.getD j default) v (by omega)) rfl (.dd (.dd (.dd (.dd .nil)))) (.own [23, 0] .nil) rfl <| .as rfl <| .z <| .seq <| .rs fun k10 => .mv rfl <| .bi rfl <| .z ?_
    refine .cond (t := decide ((szEnv (a.getD j default) v) < 0)) rfl (fun c2 => ?_) (fun c2 => ?_)
    ·have c2 := of_decide_eq_true c2
     refine .seq <| .rs fun k11 => .as rfl <| .z <| .ret ?_
     exact fin0 (.inr rfl) (.one (svI (show (-1) = (szEnvS a left) by (simp only [szEnvS]; rw [if_neg hI.2.2.2.1, ← hI.2.2.2.2, szF_fail (by omega) c2]))) .nil) (.dd .nil) rfl
    ·have c2 := of_decide_eq_false c2
     refine .skip <| .rs fun k13 => .mv rfl <| .bi rfl <| .as rfl <| .z ?_
     exact .here ((j + 1), (szEnv (a.getD j default) v)) (.of (.cons rfl (.cons (svI (show (szEnv (a.getD j default) v) = ((szEnv (a.getD j default) v)) by first | rfl | omega | exact wrap_le (by omega) (by omega) | (rw [wrap_le (by omega) (by omega)]; omega))) (.cons (svI (show (IntKind.wrap .i64 ((j : Int) + 1)) = (((j + 1) : Int)) by first | rfl | omega | exact wrap_le (by omega) (by omega) | (rw [wrap_le (by omega) (by omega)]; omega))) .nil))) .nil) ⟨(show (j + 1) ≤ a.length ∧ 0 ≤ (szEnv (a.getD j default) v) ∧ (szEnv (a.getD j default) v) ≤ 1048576 ∧ ¬ left - a.length < 0 ∧ szF szEnv (szEnv (a.getD j default) v) (a.drop (j + 1)) = szF szEnv (left - a.length) a by (have hx := szEnv_len ⟨hI.2.1, hI.2.2.1⟩ c2; exact ⟨by omega, by omega, by omega, hI.2.2.2.1, by rw [← hI.2.2.2.2]; exact (szF_step (by omega) c2).symm⟩)), (show a.length - (j + 1) < a.length - j by omega)⟩
   ·have c1 := of_decide_eq_false c1
    refine .exit <| .seq <| .rs fun k14 => .mv rfl <| .as rfl <| .z <| .ret ?_
    exact fin0 (.inr rfl) (.one (svI (show (v) = (szEnvS a left) by (simp only [szEnvS]; rw [if_neg hI.2.2.2.1, ← hI.2.2.2.2, szF_end (by omega)]))) .nil) (.dd .nil) rfl
theorem c_szPart (a : Part) (left : Int) (hl : 0 ≤ left ∧ left ≤ 1048576) : Trip Tryz.prog 40 [(true, 2), (false, 1)] (Part.c74 a ++ [.v (.int .i64 (left))]) [(false, 1)] [.v (.int .i64 (szPart a left))] [] := by
 refine Trip.of Tryz.func40 (by decide) (c := _) rfl rfl (Nat.le_of_ble_eq_true rfl) rfl (AftOk.nil _) <| .sla (t := 0) 0 rfl rfl fun hs1l => .sla (t := 0) 1 rfl rfl fun hs2l => .seq <| .rs fun k3 => .g (fun _ τ => ⟨_, .box (.no rfl) rfl rfl rfl rfl rfl τ⟩) <| .as rfl <| .z <| .seq ?_
 refine .rs fun k4 => .fp t74 t71 rfl <| .ld t71 rfl (.ptr _ _ _ _ _ rfl) rfl <| .mv rfl <| .c0 (c_szEntryS a.token left (by first | assumption | exact ⟨by omega, szPl_le (by omega)⟩)) rfl (.dd (.dd .nil)) (.own [8, 0] .nil) rfl <| .as rfl <| .z <| .seq <| .seq ?_
 refine .rs fun k5 => .mv rfl <| .bi rfl <| .z ?_
 refine .cond (t := decide ((szPl a.token left) < 0)) rfl (fun c0 => ?_) (fun c0 => ?_)
 ·have c0 := of_decide_eq_true c0
  refine .seq <| .rs fun k6 => .as rfl <| .z <| .ret ?_
  exact fin0 (.inr rfl) (.one (svI (show (-1) = (szPart a left) by (simp only [szPart]; rw [if_pos c0]))) .nil) (.dd .nil) rfl
 ·have c0 := of_decide_eq_false c0
  refine .skip <| .seq <| .rs fun k8 => .fp t74 t72 rfl <| .ld t72 rfl (.ptr _ _ _ _ _ rfl) rfl <| .mv rfl <| .c0 (c_szEnvS a.table (szPl a.token left) (by first | assumption | exact ⟨by omega, szPl_le (by omega)⟩)) rfl (.dd (.dd .nil)) (.own [14, 0] .nil) rfl <| .as rfl <| .z ?_
  refine .seq <| .seq <| .rs fun k9 => .mv rfl <| .bi rfl <| .z ?_
  refine .cond (t := decide ((szEnvS a.table (szPl a.token left)) < 0)) rfl (fun c1 => ?_) (fun c1 => ?_)
  ·have c1 := of_decide_eq_true c1
   refine .seq <| .rs fun k10 => .as rfl <| .z <| .ret ?_
   exact fin0 (.inr rfl) (.one (svI (show (-1) = (szPart a left) by (simp only [szPart]; rw [if_neg c0, if_pos c1]))) .nil) (.dd .nil) rfl
  ·have c1 := of_decide_eq_false c1
   refine .skip <| .seq <| .rs fun k12 => .mv rfl <| .as rfl <| .z <| .ret ?_
   exact fin0 (.inr rfl) (.one (svI (show (szEnvS a.table (szPl a.token left)) = (szPart a left) by (simp only [szPart]; rw [if_neg c0, if_neg c1]))) .nil) (.dd .nil) rfl
theorem c_szPartS (a : List Part) (left : Int) (hl : 0 ≤ left ∧ left ≤ 1048576) : Trip Tryz.prog 8 [(false, 1), (false, 1)] ([.sl false 74 2 (List.map Part.c74 (a))] ++ [.v (.int .i64 (left))]) [(false, 1)] [.v (.int .i64 (szPartS a left))] [] := by
 refine Trip.of Tryz.func8 (by decide) (c := _) rfl rfl (Nat.le_of_ble_eq_true rfl) rfl (AftOk.nil _) <| .sl (t := 0) rfl fun hs1l => .seq <| .rs fun k2 => .as rfl <| .z <| .seq <| .rs fun k3 => .mv rfl ?_
 refine .mv rfl <| .g (fun _ τ => ⟨_, .len (.no rfl) rfl (z := (a.length : Int)) t26 rfl rfl rfl (.d _ _) (map_len _ _) rfl τ⟩) <| .bi rfl <| .as rfl <| .z <| .seq <| .seq <| .rs fun k4 => .mv rfl ?_
 refine .bi rfl <| .z ?_
 refine .cond (t := decide ((IntKind.wrap .i64 (left - (a.length : Int))) < 0)) rfl (fun c0 => ?_) (fun c0 => ?_)
 ·have c0 := of_decide_eq_true c0
  refine .seq <| .rs fun k5 => .as rfl <| .z <| .ret ?_
  exact fin0 (.inr rfl) (.one (svI (show (-1) = (szPartS a left) by (rw [wrap_le (by omega) (by omega)] at c0; simp only [szPartS]; rw [if_pos c0]))) .nil) (.dd .nil) rfl
 ·have c0 := of_decide_eq_false c0
  refine .skip <| .seq <| .seq <| .rs fun k7 => .as rfl <| .z <| .block ?_
  refine .loop (X := Nat × Int) (fun ζ => .of [(0, .one (.d (.sl false 74 2 (List.map Part.c74 (a))))), (1, .one (.d (.v (.int .i64 (ζ.2))))), (5, .one (.d (.v (.int .i64 ((ζ.1 : Int))))))] []) (fun ζ => ζ.1 ≤ a.length ∧ 0 ≤ ζ.2 ∧ ζ.2 ≤ 1048576 ∧ ¬ left - a.length < 0 ∧ szF szPart ζ.2 (a.drop ζ.1) = szF szPart (left - a.length) a) (fun ζ => a.length - ζ.1) ?_ ?_
  ·skip
   exact .here (0, (left - a.length)) (.of (.cons rfl (.cons (svI (show (IntKind.wrap .i64 (left - (a.length : Int))) = ((left - a.length)) by first | rfl | omega | exact wrap_le (by omega) (by omega) | (rw [wrap_le (by omega) (by omega)]; omega))) (.cons (svI (show (0) = ((0 : Int)) by first | rfl | omega | exact wrap_le (by omega) (by omega) | (rw [wrap_le (by omega) (by omega)]; omega))) .nil))) .nil) (show 0 ≤ a.length ∧ 0 ≤ (left - a.length) ∧ (left - a.length) ≤ 1048576 ∧ ¬ left - a.length < 0 ∧ szF szPart (left - a.length) (a.drop 0) = szF szPart (left - a.length) a by (rw [wrap_le (by omega) (by omega)] at c0; exact ⟨by omega, by omega, by omega, c0, by simp⟩))
  ·rintro ⟨j, v⟩ hI
   have hI : j ≤ a.length ∧ 0 ≤ v ∧ v ≤ 1048576 ∧ ¬ left - a.length < 0 ∧ szF szPart v (a.drop j) = szF szPart (left - a.length) a := hI
   dsimp only
   refine .seq <| .seq <| .rs fun k8 => .mv rfl <| .mv rfl <| .g (fun _ τ => ⟨_, .len (.no rfl) rfl (z := (a.length : Int)) t26 rfl rfl rfl (.d _ _) (map_len _ _) rfl τ⟩) <| .bi rfl <| .z ?_
   refine .cond (t := decide ((j : Int) < (a.length : Int))) rfl (fun c1 => ?_) (fun c1 => ?_)
   ·have c1 := of_decide_eq_true c1
    refine .skip <| .seq <| .block <| .seq <| .rs fun k9 => .mv rfl <| .mv rfl <| .g (fun _ τ => ⟨_, .indexAddr (.no rfl) rfl (j) t26 rfl t74 rfl rfl rfl (.d _ _) rfl rfl rfl (map_get (by omega)) rfl rfl τ⟩) <| .lda t74 rfl (.d _) rfl ?_
    refine .mv rfl <| .c0 (c_szPart (a.getD j default) v (by omega)) rfl (.dd (.dd (.dd .nil))) (.own [23, 0] .nil) rfl <| .as rfl <| .z <| .seq <| .rs fun k10 => .mv rfl <| .bi rfl <| .z ?_
    refine .cond (t := decide ((szPart (a.getD j default) v) < 0)) rfl (fun c2 => ?_) (fun c2 => ?_)
    ·have c2 := of_decide_eq_true c2
     refine .seq <| .rs fun k11 => .as rfl <| .z <| .ret ?_
     exact fin0 (.inr rfl) (.one (svI (show (-1) = (szPartS a left) by (simp only [szPartS]; rw [if_neg hI.2.2.2.1, ← hI.2.2.2.2, szF_fail (by omega) c2]))) .nil) (.dd .nil) rfl
    ·have c2 := of_decide_eq_false c2
     refine .skip <| .rs fun k13 => .mv rfl <| .bi rfl <| .as rfl <| .z ?_
     exact .here ((j + 1), (szPart (a.getD j default) v)) (.of (.cons rfl (.cons (svI (show (szPart (a.getD j default) v) = ((szPart (a.getD j default) v)) by first | rfl | omega | exact wrap_le (by omega) (by omega) | (rw [wrap_le (by omega) (by omega)]; omega))) (.cons (svI (show (IntKind.wrap .i64 ((j : Int) + 1)) = (((j + 1) : Int)) by first | rfl | omega | exact wrap_le (by omega) (by omega) | (rw [wrap_le (by omega) (by omega)]; omega))) .nil))) .nil) ⟨(show (j + 1) ≤ a.length ∧ 0 ≤ (szPart (a.getD j default) v) ∧ (szPart (a.getD j default) v) ≤ 1048576 ∧ ¬ left - a.length < 0 ∧ szF szPart (szPart (a.getD j default) v) (a.drop (j + 1)) = szF szPart (left - a.length) a by (have hx := (szPart_len ⟨hI.2.1, hI.2.2.1⟩ c2).2; exact ⟨by omega, by omega, by omega, hI.2.2.2.1, by rw [← hI.2.2.2.2]; exact (szF_step (by omega) c2).symm⟩)), (show a.length - (j + 1) < a.length - j by omega)⟩
   ·have c1 := of_decide_eq_false c1
    refine .exit <| .seq <| .rs fun k14 => .mv rfl <| .as rfl <| .z <| .ret ?_
    exact fin0 (.inr rfl) (.one (svI (show (v) = (szPartS a left) by (simp only [szPartS]; rw [if_neg hI.2.2.2.1, ← hI.2.2.2.2, szF_end (by omega)]))) .nil) (.dd .nil) rfl
end Go.Proofs

namespace Go.Proofs
open Go Go.Proofs Go.Ev

def Part.c62 (x : Part) : List D := [.sl false 115 2 (List.map Entry.c (x.token)), .sl false 98 3 (List.map Env.c98 (x.table))]
theorem Part.c62_e (x : Part) : (Part.c62 x).map D.erase = Part.c62 x := by simp [Part.c62, D.erase_v, erase_slo _ _ _ _ _ _ Entry.c_e, erase_slo _ _ _ _ _ _ Env.c98_e]
def Part.co62 (x : Part) : List D := [.sl true 115 2 (List.map Entry.c (x.token)), .sl true 98 3 (List.map Env.co98 (x.table))]
theorem Part.co62_e (x : Part) : (Part.co62 x).map D.erase = Part.c62 x := by simp [Part.co62, Part.c62, D.erase_v, erase_slo _ _ _ _ _ _ Entry.c_e, erase_slo _ _ _ _ _ _ Env.co98_e]
theorem Part.co62_o (x : Part) : ∀ d ∈ Part.co62 x, Owned d := by simp [Part.co62, Owned.v, Owned.map _ _ _ _ Entry.c_o, Owned.map _ _ _ _ Env.co98_o]
def i29 : TI := ⟨.sl 62, 1, 24, [.slice none 0 0]⟩
theorem t29 : TyOk Tryz.prog 29 i29 := ⟨Tryz.underlying29, by kernel_rfl⟩
theorem z29 : ZOk Tryz.prog 29 i29 := ⟨t29, rfl⟩
def i49 : TI := ⟨.sl 115, 1, 24, [.slice none 0 0]⟩
theorem t49 : TyOk Tryz.prog 49 i49 := ⟨Tryz.underlying49, by kernel_rfl⟩
theorem z49 : ZOk Tryz.prog 49 i49 := ⟨t49, rfl⟩
def i60 : TI := ⟨.sl 98, 1, 24, [.slice none 0 0]⟩
theorem t60 : TyOk Tryz.prog 60 i60 := ⟨Tryz.underlying60, by kernel_rfl⟩
theorem z60 : ZOk Tryz.prog 60 i60 := ⟨t60, rfl⟩
def i62 : TI := ⟨.st [(0, 49), (1, 60)], 2, 48, [.slice none 0 0, .slice none 0 0]⟩
theorem t62 : TyOk Tryz.prog 62 i62 := ⟨⟨_, Tryz.underlying62, rfl⟩, by kernel_rfl⟩
theorem z62 : ZOk Tryz.prog 62 i62 := ⟨t62, rfl⟩
theorem p62 : Places Tryz.prog [(0, 49), (1, 60)] [(0, 1), (1, 1)] := by unfold Places; kernel_rfl
def i115 : TI := ⟨.st [(0, 2), (1, 2)], 2, 16, [.int .i64 0, .int .i64 0]⟩
theorem t115 : TyOk Tryz.prog 115 i115 := ⟨⟨_, Tryz.underlying115, rfl⟩, by kernel_rfl⟩
theorem z115 : ZOk Tryz.prog 115 i115 := ⟨t115, rfl⟩
theorem p115 : Places Tryz.prog [(0, 2), (1, 2)] [(0, 1), (1, 1)] := by unfold Places; kernel_rfl
def i175 : TI := ⟨.st [(0, 2), (1, 2)], 2, 16, [.int .i64 0, .int .i64 0]⟩
theorem t175 : TyOk Tryz.prog 175 i175 := ⟨⟨_, Tryz.underlying175, rfl⟩, by kernel_rfl⟩
theorem z175 : ZOk Tryz.prog 175 i175 := ⟨t175, rfl⟩
theorem p175 : Places Tryz.prog [(0, 2), (1, 2)] [(0, 1), (1, 1)] := by unfold Places; kernel_rfl
theorem c_toEnvS (a : List Env) (hb : a.length ≤ 1048576) (hx : ∀ x ∈ a, x.ints.length ≤ 1048576 ∧ x.arrs.length ≤ 1048576) : Trip Tryz.prog 95 [(false, 1)] ([.sl false 170 3 (List.map Env.c170 (a))]) [(false, 1)] [.sl true 98 3 (List.map Env.co98 (a))] [] := by
 refine Trip.of Tryz.func95 (by decide) (c := _) rfl rfl (Nat.le_of_ble_eq_true rfl) rfl (AftOk.nil _) <| .sl (t := 0) rfl fun hs1l => .seq <| .rs fun k2 => .as rfl <| .z <| .seq <| .rs fun k3 => .mv rfl ?_
 refine .g (fun _ τ => ⟨_, .len (.no rfl) rfl (z := (a.length : Int)) t72 rfl rfl rfl (.d _ _) (map_len _ _) rfl τ⟩) <| .g (fun _ τ => ⟨_, .makeSlice (.no rfl) rfl (n0 := a.length) (els := List.replicate a.length [.v (.bool (false)), .v (.slice none 0 0), .v (.slice none 0 0)]) t60 rfl z98 rfl rfl rfl rfl rfl (by (simp [i98]; omega)) (by omega) rfl rfl τ⟩) <| .as rfl <| .z <| .seq <| .seq <| .rs fun k4 => .as rfl <| .z ?_
 refine .block ?_
 refine .loop (X := Nat × Nat × Nat) (fun ζ => .of [(0, .one (.d (.sl false 170 3 (List.map Env.c170 (a))))), (3, .one (.ref [7] (ζ.2.1))), (4, .one (.d (.v (.int .i64 ((ζ.1 : Int))))))] [([7], (ζ.2.1, ζ.2.2, .row 98 3 (List.map Env.co98 (fillTo a (Env.mk false [] []) ζ.1))))]) (fun ζ => ζ.1 ≤ a.length) (fun ζ => a.length - ζ.1) ?_ ?_
 ·skip
  refine .rowAs [7] (x := [.v (.bool (false)), .v (.slice none 0 0), .v (.slice none 0 0)]) (x' := [.v (.bool (false)), .sl true 119 2 ([]), .sl true 119 2 ([])]) (els' := List.map Env.co98 (List.replicate a.length (Env.mk false [] []))) rfl rfl (.eq _ (.emp _ _ _ (.emp _ _ _ .nil))) (rep_map _ _ _ rfl) fun q7 => ?_
  exact .here (0, (k3 + 1 + 1), q7) (.of (.cons rfl (.cons (by show SV.one (.ref [7] (k3 + 1 + 1)) = SV.one (.ref [7] ((k3 + 1 + 1))); first | rfl | simp_all) (.cons (svI (show (0) = ((0 : Int)) by first | rfl | omega | exact wrap_le (by omega) (by omega) | (rw [wrap_le (by omega) (by omega)]; omega))) .nil))) (.cons (rowE (show List.map Env.co98 (List.replicate a.length (Env.mk false [] [])) = List.map Env.co98 (fillTo a (Env.mk false [] []) 0) by first | rfl | (rw [fillTo_zero]) | (rw [fillTo_step _ _ _ (by omega) rfl]))) .nil)) (show 0 ≤ a.length by omega)
 ·rintro ⟨j, q5, q6⟩ hI
  have hI : j ≤ a.length := hI
  dsimp only
  refine .seq <| .seq <| .rs fun k8 => .mv rfl <| .mv rfl <| .g (fun _ τ => ⟨_, .len (.no rfl) rfl (z := (a.length : Int)) t72 rfl rfl rfl (.d _ _) (map_len _ _) rfl τ⟩) <| .bi rfl <| .z ?_
  refine .cond (t := decide ((j : Int) < (a.length : Int))) rfl (fun c0 => ?_) (fun c0 => ?_)
  ·have c0 := of_decide_eq_true c0
   refine .skip <| .seq <| .block <| .rs fun k9 => .mv rfl <| .mv rfl <| .mv rfl <| .mv rfl <| .g (fun _ τ => ⟨_, .indexAddr (.no rfl) rfl (j) t72 rfl t170 rfl rfl rfl (.d _ _) rfl rfl rfl (map_get (by first | omega | (rw [fillTo_len]; omega))) rfl rfl τ⟩) ?_
   refine .lda t170 rfl (.d _) rfl <| .c0 (c_toEnv (a.getD j default) (by exact hx _ (getD_mem (by omega)))) rfl (.dd (.dd (.dd .nil))) (.own [20, 0] (.own [20, 1] (.own [20, 2] .nil))) rfl <| .g (fun _ τ => ⟨_, .indexAddr (.no rfl) rfl (j) t60 rfl t98 rfl rfl rfl (.ref _ _ _ _ _ rfl) rfl rfl rfl (map_get (by first | omega | (rw [fillTo_len]; omega))) rfl rfl τ⟩) <| .g (fun _ τ => ⟨_, .storeE (.no rfl) rfl (els' := List.map Env.co98 ((fillTo a (Env.mk false [] []) j).set j (a.getD j default))) t98 rfl rfl rfl rfl (map_get (by first | omega | (rw [fillTo_len]; omega))) rfl rfl (.cons _ _ _ _ _ _ (.d _) (.cons _ _ _ _ _ _ (.ref _ _ _ _ _ _ rfl) (.cons _ _ _ _ _ _ (.ref _ _ _ _ _ _ rfl) .nil))) rfl (Nat.le_of_ble_eq_true rfl) (set_map _ _ _ (a.getD j default) _ rfl) rfl rfl τ⟩) <| .z <| .rs fun k10 => .mv rfl <| .bi rfl <| .as rfl ?_
   refine .z ?_
   exact .here ((j + 1), q5, (k9 + 1 + 1 + 1 + 1 + 1 + 1 + 1 + 1)) (.of (.cons rfl (.cons rfl (.cons (svI (show (IntKind.wrap .i64 ((j : Int) + 1)) = (((j + 1) : Int)) by first | rfl | omega | exact wrap_le (by omega) (by omega) | (rw [wrap_le (by omega) (by omega)]; omega))) .nil))) (.cons (rowE (show List.map Env.co98 ((fillTo a (Env.mk false [] []) j).set j (a.getD j default)) = List.map Env.co98 (fillTo a (Env.mk false [] []) (j + 1)) by first | rfl | (rw [fillTo_zero]) | (rw [fillTo_step _ _ _ (by omega) rfl]))) .nil)) ⟨(show (j + 1) ≤ a.length by omega), (show a.length - (j + 1) < a.length - j by omega)⟩
  ·have c0 := of_decide_eq_false c0
   refine .exit <| .seq <| .rs fun k11 => .mv rfl <| .as rfl <| .z <| .ret ?_
   have e12 : (fillTo a (Env.mk false [] []) j) = (a) := by (exact fillTo_all _ _ (by omega))
   exact fin1 (.inr rfl) [] [([7], (q5, q6, .row 98 3 (List.map Env.co98 (a))))] (.one rfl .nil) (.cons (.ref (.head _)) .nil) rfl rfl (.cons (rowE (congrArg (List.map Env.co98) e12)) .nil)
theorem c_toEntry (a : Entry) : Trip Tryz.prog 143 [(true, 2)] (Entry.c a) [(true, 2)] [.v (.int .i64 (a.line)), .v (.int .i64 (a.pick))] [] := by
 refine Trip.of Tryz.func143 (by decide) (c := _) rfl rfl (Nat.le_of_ble_eq_true rfl) rfl (AftOk.nil _) <| .seq <| .rs fun k1 => .g (fun _ τ => ⟨_, .box (.no rfl) rfl rfl rfl rfl rfl τ⟩) <| .g (fun _ τ => ⟨_, .alloc (.no rfl) rfl z115 rfl rfl rfl τ⟩) <| .z <| .seq <| .rs fun k2 => .g (fun _ τ => ⟨_, .alloc (.no rfl) rfl z115 rfl rfl rfl τ⟩) ?_
 refine .z <| .seq <| .rs fun k3 => .fp t175 t2 rfl <| .ld t2 rfl (.ptr _ _ _ _ _ rfl) rfl <| .fp t115 t2 rfl <| .g (fun _ τ => ⟨_, .store (.no rfl) rfl t2 rfl rfl rfl rfl rfl rfl rfl rfl rfl τ⟩) <| .z <| .seq ?_
 refine .rs fun k4 => .fp t175 t2 rfl <| .ld t2 rfl (.ptr _ _ _ _ _ rfl) rfl <| .fp t115 t2 rfl <| .g (fun _ τ => ⟨_, .store (.no rfl) rfl t2 rfl rfl rfl rfl rfl rfl rfl rfl rfl τ⟩) <| .z <| .seq <| .rs fun k5 => .lda t115 rfl (.ptr _ _ _ _ _ rfl) rfl ?_
 refine .g (fun _ τ => ⟨_, .store (.no rfl) rfl t115 rfl rfl rfl rfl rfl rfl rfl rfl rfl τ⟩) <| .z <| .ret ?_
 exact fin0 (.inr rfl) (.cell (cells := [.d (.v (.int .i64 (a.line))), .d (.v (.int .i64 (a.pick)))]) rfl rfl t115 rfl rfl .nil) (.dd (.dd .nil)) rfl
theorem c_toEntryS (a : List Entry) (hb : a.length ≤ 1048576) : Trip Tryz.prog 94 [(false, 1)] ([.sl false 175 2 (List.map Entry.c (a))]) [(false, 1)] [.sl true 115 2 (List.map Entry.c (a))] [] := by
 refine Trip.of Tryz.func94 (by decide) (c := _) rfl rfl (Nat.le_of_ble_eq_true rfl) rfl (AftOk.nil _) <| .sl (t := 0) rfl fun hs1l => .seq <| .rs fun k2 => .as rfl <| .z <| .seq <| .rs fun k3 => .mv rfl ?_
 refine .g (fun _ τ => ⟨_, .len (.no rfl) rfl (z := (a.length : Int)) t71 rfl rfl rfl (.d _ _) (map_len _ _) rfl τ⟩) <| .g (fun _ τ => ⟨_, .makeSlice (.no rfl) rfl (n0 := a.length) (els := List.map Entry.c (List.replicate a.length (Entry.mk 0 0))) t49 rfl z115 rfl rfl rfl rfl rfl (by (simp [i115]; omega)) (by omega) (rep_map _ _ _ rfl) rfl τ⟩) <| .as rfl <| .z <| .seq <| .seq <| .rs fun k4 => .as rfl <| .z ?_
 refine .block ?_
 refine .loop (X := Nat × Nat × Nat) (fun ζ => .of [(0, .one (.d (.sl false 175 2 (List.map Entry.c (a))))), (3, .one (.ref [7] (ζ.2.1))), (4, .one (.d (.v (.int .i64 ((ζ.1 : Int))))))] [([7], (ζ.2.1, ζ.2.2, .row 115 2 (List.map Entry.c (fillTo a (Entry.mk 0 0) ζ.1))))]) (fun ζ => ζ.1 ≤ a.length) (fun ζ => a.length - ζ.1) ?_ ?_
 ·skip
  exact .here (0, (k3 + 1 + 1), (k3 + 1 + 1)) (.of (.cons rfl (.cons (by show SV.one (.ref [7] (k3 + 1 + 1)) = SV.one (.ref [7] ((k3 + 1 + 1))); first | rfl | simp_all) (.cons (svI (show (0) = ((0 : Int)) by first | rfl | omega | exact wrap_le (by omega) (by omega) | (rw [wrap_le (by omega) (by omega)]; omega))) .nil))) (.cons (rowE (show List.map Entry.c (List.replicate a.length (Entry.mk 0 0)) = List.map Entry.c (fillTo a (Entry.mk 0 0) 0) by first | rfl | (rw [fillTo_zero]) | (rw [fillTo_step _ _ _ (by omega) rfl]))) .nil)) (show 0 ≤ a.length by omega)
 ·rintro ⟨j, q5, q6⟩ hI
  have hI : j ≤ a.length := hI
  dsimp only
  refine .seq <| .seq <| .rs fun k7 => .mv rfl <| .mv rfl <| .g (fun _ τ => ⟨_, .len (.no rfl) rfl (z := (a.length : Int)) t71 rfl rfl rfl (.d _ _) (map_len _ _) rfl τ⟩) <| .bi rfl <| .z ?_
  refine .cond (t := decide ((j : Int) < (a.length : Int))) rfl (fun c0 => ?_) (fun c0 => ?_)
  ·have c0 := of_decide_eq_true c0
   refine .skip <| .seq <| .block <| .rs fun k8 => .mv rfl <| .mv rfl <| .mv rfl <| .mv rfl <| .g (fun _ τ => ⟨_, .indexAddr (.no rfl) rfl (j) t71 rfl t175 rfl rfl rfl (.d _ _) rfl rfl rfl (map_get (by first | omega | (rw [fillTo_len]; omega))) rfl rfl τ⟩) ?_
   refine .lda t175 rfl (.d _) rfl <| .c0 (c_toEntry (a.getD j default)) rfl (.dd (.dd .nil)) (.own [20, 0] (.own [20, 1] .nil)) rfl <| .g (fun _ τ => ⟨_, .indexAddr (.no rfl) rfl (j) t49 rfl t115 rfl rfl rfl (.ref _ _ _ _ _ rfl) rfl rfl rfl (map_get (by first | omega | (rw [fillTo_len]; omega))) rfl rfl τ⟩) <| .g (fun _ τ => ⟨_, .storeE (.no rfl) rfl (els' := List.map Entry.c ((fillTo a (Entry.mk 0 0) j).set j (a.getD j default))) t115 rfl rfl rfl rfl (map_get (by first | omega | (rw [fillTo_len]; omega))) rfl rfl (.cons _ _ _ _ _ _ (.d _) (.cons _ _ _ _ _ _ (.d _) .nil)) rfl (Nat.le_of_ble_eq_true rfl) (set_map _ _ _ (a.getD j default) _ rfl) rfl rfl τ⟩) <| .z <| .rs fun k9 => .mv rfl <| .bi rfl <| .as rfl ?_
   refine .z ?_
   exact .here ((j + 1), q5, (k8 + 1 + 1 + 1 + 1 + 1 + 1 + 1 + 1)) (.of (.cons rfl (.cons rfl (.cons (svI (show (IntKind.wrap .i64 ((j : Int) + 1)) = (((j + 1) : Int)) by first | rfl | omega | exact wrap_le (by omega) (by omega) | (rw [wrap_le (by omega) (by omega)]; omega))) .nil))) (.cons (rowE (show List.map Entry.c ((fillTo a (Entry.mk 0 0) j).set j (a.getD j default)) = List.map Entry.c (fillTo a (Entry.mk 0 0) (j + 1)) by first | rfl | (rw [fillTo_zero]) | (rw [fillTo_step _ _ _ (by omega) rfl]))) .nil)) ⟨(show (j + 1) ≤ a.length by omega), (show a.length - (j + 1) < a.length - j by omega)⟩
  ·have c0 := of_decide_eq_false c0
   refine .exit <| .seq <| .rs fun k10 => .mv rfl <| .as rfl <| .z <| .ret ?_
   have e11 : (fillTo a (Entry.mk 0 0) j) = (a) := by (exact fillTo_all _ _ (by omega))
   exact fin1 (.inr rfl) [] [([7], (q5, q6, .row 115 2 (List.map Entry.c (a))))] (.one rfl .nil) (.cons (.ref (.head _)) .nil) rfl rfl (.cons (rowE (congrArg (List.map Entry.c) e11)) .nil)
theorem c_toPart (a : Part) (hb : Part.small a) : Trip Tryz.prog 45 [(true, 2)] (Part.c74 a) [(true, 2)] [.sl true 115 2 (List.map Entry.c (a.token)), .sl true 98 3 (List.map Env.co98 (a.table))] [] := by
 refine Trip.of Tryz.func45 (by decide) (c := _) rfl rfl (Nat.le_of_ble_eq_true rfl) rfl (AftOk.nil _) <| .sla (t := 0) 0 rfl rfl fun hs1l => .sla (t := 0) 1 rfl rfl fun hs2l => .seq <| .rs fun k3 => .g (fun _ τ => ⟨_, .box (.no rfl) rfl rfl rfl rfl rfl τ⟩) <| .g (fun _ τ => ⟨_, .alloc (.no rfl) rfl z62 rfl rfl rfl τ⟩) <| .z <| .seq ?_
 refine .rs fun k4 => .g (fun _ τ => ⟨_, .alloc (.no rfl) rfl z62 rfl rfl rfl τ⟩) <| .z <| .seq <| .rs fun k5 => .fp t74 t71 rfl <| .ld t71 rfl (.ptr _ _ _ _ _ rfl) rfl <| .c0 (c_toEntryS a.token (by first | exact hb.1 | exact hb.2.1 | exact hb.2.2)) rfl (.dd .nil) (.own [6, 0] .nil) rfl <| .fp t62 t49 rfl ?_
 refine .g (fun _ τ => ⟨_, .store (.no rfl) rfl t49 rfl rfl rfl rfl rfl rfl rfl rfl rfl τ⟩) <| .z <| .seq <| .rs fun k6 => .fp t74 t72 rfl <| .ld t72 rfl (.ptr _ _ _ _ _ rfl) rfl <| .c0 (c_toEnvS a.table (by first | exact hb.1 | exact hb.2.1 | exact hb.2.2) (by first | exact hb.1 | exact hb.2.1 | exact hb.2.2)) rfl (.dd .nil) (.own [10, 0] .nil) rfl <| .fp t62 t60 rfl <| .g (fun _ τ => ⟨_, .store (.no rfl) rfl t60 rfl rfl rfl rfl rfl rfl rfl rfl rfl τ⟩) ?_
 refine .z <| .seq <| .rs fun k7 => .lda t62 rfl (.ptr _ _ _ _ _ rfl) rfl <| .g (fun _ τ => ⟨_, .store (.no rfl) rfl t62 rfl rfl rfl rfl rfl rfl rfl rfl rfl τ⟩) <| .z <| .ret ?_
 exact fin1 (.inr rfl) [] [([6, 0], (k5 + 1 + 1, k5 + 1 + 1, .row 115 2 (List.map Entry.c (a.token)))), ([10, 0], (k6 + 1 + 1, k6 + 1 + 1, .row 98 3 (List.map Env.co98 (a.table))))] (.cell (cells := [.ref [6, 0] (k5 + 1 + 1), .ref [10, 0] (k6 + 1 + 1)]) rfl rfl t62 rfl rfl .nil) (.cons (.ref (.head _)) (.cons (.ref (.tail _ (.head _))) .nil)) rfl rfl (.r rfl)
theorem c_toPartS (a : List Part) (hb : a.length ≤ 1048576) (hx : ∀ x ∈ a, Part.small x) : Trip Tryz.prog 11 [(false, 1)] ([.sl false 74 2 (List.map Part.c74 (a))]) [(false, 1)] [.sl true 62 2 (List.map Part.co62 (a))] [] := by
 refine Trip.of Tryz.func11 (by decide) (c := _) rfl rfl (Nat.le_of_ble_eq_true rfl) rfl (AftOk.nil _) <| .sl (t := 0) rfl fun hs1l => .seq <| .rs fun k2 => .as rfl <| .z <| .seq <| .rs fun k3 => .mv rfl ?_
 refine .g (fun _ τ => ⟨_, .len (.no rfl) rfl (z := (a.length : Int)) t26 rfl rfl rfl (.d _ _) (map_len _ _) rfl τ⟩) <| .g (fun _ τ => ⟨_, .makeSlice (.no rfl) rfl (n0 := a.length) (els := List.replicate a.length [.v (.slice none 0 0), .v (.slice none 0 0)]) t29 rfl z62 rfl rfl rfl rfl rfl (by (simp [i62]; omega)) (by omega) rfl rfl τ⟩) <| .as rfl <| .z <| .seq <| .seq <| .rs fun k4 => .as rfl <| .z ?_
 refine .block ?_
 refine .loop (X := Nat × Nat × Nat) (fun ζ => .of [(0, .one (.d (.sl false 74 2 (List.map Part.c74 (a))))), (3, .one (.ref [7] (ζ.2.1))), (4, .one (.d (.v (.int .i64 ((ζ.1 : Int))))))] [([7], (ζ.2.1, ζ.2.2, .row 62 2 (List.map Part.co62 (fillTo a (Part.mk [] []) ζ.1))))]) (fun ζ => ζ.1 ≤ a.length) (fun ζ => a.length - ζ.1) ?_ ?_
 ·skip
  refine .rowAs [7] (x := [.v (.slice none 0 0), .v (.slice none 0 0)]) (x' := [.sl true 115 2 ([]), .sl true 98 3 ([])]) (els' := List.map Part.co62 (List.replicate a.length (Part.mk [] []))) rfl rfl (.emp _ _ _ (.emp _ _ _ .nil)) (rep_map _ _ _ rfl) fun q7 => ?_
  exact .here (0, (k3 + 1 + 1), q7) (.of (.cons rfl (.cons (by show SV.one (.ref [7] (k3 + 1 + 1)) = SV.one (.ref [7] ((k3 + 1 + 1))); first | rfl | simp_all) (.cons (svI (show (0) = ((0 : Int)) by first | rfl | omega | exact wrap_le (by omega) (by omega) | (rw [wrap_le (by omega) (by omega)]; omega))) .nil))) (.cons (rowE (show List.map Part.co62 (List.replicate a.length (Part.mk [] [])) = List.map Part.co62 (fillTo a (Part.mk [] []) 0) by first | rfl | (rw [fillTo_zero]) | (rw [fillTo_step _ _ _ (by omega) rfl]))) .nil)) (show 0 ≤ a.length by omega)
 ·rintro ⟨j, q5, q6⟩ hI
  have hI : j ≤ a.length := hI
  dsimp only
  refine .seq <| .seq <| .rs fun k8 => .mv rfl <| .mv rfl <| .g (fun _ τ => ⟨_, .len (.no rfl) rfl (z := (a.length : Int)) t26 rfl rfl rfl (.d _ _) (map_len _ _) rfl τ⟩) <| .bi rfl <| .z ?_
  refine .cond (t := decide ((j : Int) < (a.length : Int))) rfl (fun c0 => ?_) (fun c0 => ?_)
  ·have c0 := of_decide_eq_true c0
   refine .skip <| .seq <| .block <| .rs fun k9 => .mv rfl <| .mv rfl <| .mv rfl <| .mv rfl <| .g (fun _ τ => ⟨_, .indexAddr (.no rfl) rfl (j) t26 rfl t74 rfl rfl rfl (.d _ _) rfl rfl rfl (map_get (by first | omega | (rw [fillTo_len]; omega))) rfl rfl τ⟩) ?_
   refine .lda t74 rfl (.d _) rfl <| .c0 (c_toPart (a.getD j default) (by exact hx _ (getD_mem (by omega)))) rfl (.dd (.dd .nil)) (.own [20, 0] (.own [20, 1] .nil)) rfl <| .g (fun _ τ => ⟨_, .indexAddr (.no rfl) rfl (j) t29 rfl t62 rfl rfl rfl (.ref _ _ _ _ _ rfl) rfl rfl rfl (map_get (by first | omega | (rw [fillTo_len]; omega))) rfl rfl τ⟩) <| .g (fun _ τ => ⟨_, .storeE (.no rfl) rfl (els' := List.map Part.co62 ((fillTo a (Part.mk [] []) j).set j (a.getD j default))) t62 rfl rfl rfl rfl (map_get (by first | omega | (rw [fillTo_len]; omega))) rfl rfl (.cons _ _ _ _ _ _ (.ref _ _ _ _ _ _ rfl) (.cons _ _ _ _ _ _ (.ref _ _ _ _ _ _ rfl) .nil)) rfl (Nat.le_of_ble_eq_true rfl) (set_map _ _ _ (a.getD j default) _ rfl) rfl rfl τ⟩) <| .z <| .rs fun k10 => .mv rfl <| .bi rfl <| .as rfl ?_
   refine .z ?_
   exact .here ((j + 1), q5, (k9 + 1 + 1 + 1 + 1 + 1 + 1 + 1 + 1)) (.of (.cons rfl (.cons rfl (.cons (svI (show (IntKind.wrap .i64 ((j : Int) + 1)) = (((j + 1) : Int)) by first | rfl | omega | exact wrap_le (by omega) (by omega) | (rw [wrap_le (by omega) (by omega)]; omega))) .nil))) (.cons (rowE (show List.map Part.co62 ((fillTo a (Part.mk [] []) j).set j (a.getD j default)) = List.map Part.co62 (fillTo a (Part.mk [] []) (j + 1)) by first | rfl | (rw [fillTo_zero]) | (rw [fillTo_step _ _ _ (by omega) rfl]))) .nil)) ⟨(show (j + 1) ≤ a.length by omega), (show a.length - (j + 1) < a.length - j by omega)⟩
  ·have c0 := of_decide_eq_false c0
   refine .exit <| .seq <| .rs fun k11 => .mv rfl <| .as rfl <| .z <| .ret ?_
   have e12 : (fillTo a (Part.mk [] []) j) = (a) := by (exact fillTo_all _ _ (by omega))
   exact fin1 (.inr rfl) [] [([7], (q5, q6, .row 62 2 (List.map Part.co62 (a))))] (.one rfl .nil) (.cons (.ref (.head _)) .nil) rfl rfl (.cons (rowE (congrArg (List.map Part.co62) e12)) .nil)
end Go.Proofs

namespace Go.Proofs
open Go Go.Proofs Go.Ev

theorem c_eqEnvS (a : List Env) (b : List Env) : Trip Tryz.prog 102 [(false, 1), (false, 1)] ([.sl false 98 3 (List.map Env.c98 (a))] ++ [.sl false 98 3 (List.map Env.c98 (b))]) [(false, 1)] [.v (.bool (all2 Env.same a b))] [] := by
 refine Trip.of Tryz.func102 (by decide) (c := _) rfl rfl (Nat.le_of_ble_eq_true rfl) rfl (AftOk.nil _) <| .sl (t := 0) rfl fun hs1l => .sl (t := 1) rfl fun hs2l => .seq <| .rs fun k3 => .as rfl <| .z <| .seq <| .seq ?_
 refine .rs fun k4 => .mv rfl <| .g (fun _ τ => ⟨_, .len (.no rfl) rfl (z := (a.length : Int)) t60 rfl rfl rfl (.d _ _) (map_len _ _) rfl τ⟩) <| .mv rfl <| .g (fun _ τ => ⟨_, .len (.no rfl) rfl (z := (b.length : Int)) t60 rfl rfl rfl (.d _ _) (map_len _ _) rfl τ⟩) <| .bi rfl <| .z ?_
 refine .cond (t := (a.length : Int) != (b.length : Int)) rfl (fun c0 => ?_) (fun c0 => ?_)
 ·have c0 := (by simpa using c0 : ¬ ((a.length : Int) = (b.length : Int)))
  refine .seq <| .rs fun k5 => .as rfl <| .z <| .ret ?_
  exact fin0 (.inr rfl) (.one (svB (show (false) = (all2 Env.same a b) by exact (all2_ne _ c0).symm)) .nil) (.dd .nil) rfl
 ·have c0 := (by simpa using c0 : (a.length : Int) = (b.length : Int))
  refine .skip <| .seq <| .seq <| .rs fun k7 => .as rfl <| .z <| .block ?_
  refine .loop (X := Nat) (fun ζ => .of [(0, .one (.d (.sl false 98 3 (List.map Env.c98 (a))))), (1, .one (.d (.sl false 98 3 (List.map Env.c98 (b))))), (5, .one (.d (.v (.int .i64 ((ζ : Int))))))] []) (fun ζ => ζ ≤ a.length ∧ a.length = b.length ∧ allTo ζ (fun i => Env.same (a.getD i default) (b.getD i default)) = true) (fun ζ => a.length - ζ) ?_ ?_
  ·skip
   exact .here 0 (.of (.cons rfl (.cons rfl (.cons (svI (show (0) = ((0 : Int)) by first | rfl | omega | exact wrap_le (by omega) (by omega) | (rw [wrap_le (by omega) (by omega)]; omega))) .nil))) .nil) (show 0 ≤ a.length ∧ a.length = b.length ∧ allTo 0 (fun i => Env.same (a.getD i default) (b.getD i default)) = true by exact ⟨by omega, by omega, rfl⟩)
  ·rintro j hI
   have hI : j ≤ a.length ∧ a.length = b.length ∧ allTo j (fun i => Env.same (a.getD i default) (b.getD i default)) = true := hI
   refine .seq <| .seq <| .rs fun k8 => .mv rfl <| .mv rfl <| .g (fun _ τ => ⟨_, .len (.no rfl) rfl (z := (a.length : Int)) t60 rfl rfl rfl (.d _ _) (map_len _ _) rfl τ⟩) <| .bi rfl <| .z ?_
   refine .cond (t := decide ((j : Int) < (a.length : Int))) rfl (fun c1 => ?_) (fun c1 => ?_)
   ·have c1 := of_decide_eq_true c1
    refine .skip <| .seq <| .block <| .seq ?_
    refine .regD (X := Unit) (by kernel_rfl) (fun ζ => .of [(0, .one (.d (.sl false 98 3 (List.map Env.c98 (a))))), (1, .one (.d (.sl false 98 3 (List.map Env.c98 (b))))), (5, .one (.d (.v (.int .i64 ((j : Int)))))), (26, .one (.d (.v (.bool (!(Env.same (a.getD j default) (b.getD j default)))))))] []) [⟨[0], some 17, [], []⟩, ⟨[5], some 18, [], []⟩, ⟨[17, 18], some 19, [], []⟩, ⟨[19], some 20, [], []⟩, ⟨[1], some 21, [], []⟩, ⟨[5], some 22, [], []⟩, ⟨[21, 22], some 23, [], []⟩, ⟨[23], some 24, [], []⟩, ⟨[20, 24], some 25, [], []⟩, ⟨[25], some 26, [], []⟩] (by kernel_rfl) (fun k9 => ?_) ?_
    ·skip
     refine .move (.no rfl) rfl rfl rfl rfl <| .move (.no rfl) rfl rfl rfl rfl <| .indexAddr (.no rfl) rfl (j) t60 rfl t98 rfl rfl rfl (.d _ _) rfl rfl rfl (map_get (by omega)) rfl rfl <| .load (.no rfl) rfl t98 rfl rfl (.d _) rfl rfl rfl rfl <| .move (.no rfl) rfl rfl rfl rfl <| .move (.no rfl) rfl rfl rfl rfl <| .indexAddr (.no rfl) rfl (j) t60 rfl t98 rfl rfl rfl (.d _ _) rfl rfl rfl (map_get (by omega)) rfl rfl <| .load (.no rfl) rfl t98 rfl rfl (.d _) rfl rfl rfl rfl <| .call (.no rfl) rfl [] [] (c_eqEnv (a.getD j default) (b.getD j default)) rfl rfl rfl rfl rfl (.dd (.dd (.dd (.dd (.dd (.dd .nil)))))) rfl rfl (fun h => absurd rfl h) (.own [25, 0] .nil) (.nil) rfl rfl rfl (by simp) rfl rfl rfl ?_
     refine .un (.no rfl) rfl rfl rfl rfl rfl ?_
     exact .fin () (.of (.r rfl) .nil)
    intro _
    refine .cond (t := !(Env.same (a.getD j default) (b.getD j default))) rfl (fun c2 => ?_) (fun c2 => ?_)
    ·have c2 := (nT id) c2
     refine .seq <| .rs fun k10 => .as rfl <| .z <| .ret ?_
     exact fin0 (.inr rfl) (.one (svB (show (false) = (all2 Env.same a b) by exact (all2_fail _ (j := j) (by omega) (by simpa [] using c2)).symm)) .nil) (.dd .nil) rfl
    ·have c2 := (nF id) c2
     refine .skip <| .rs fun k12 => .mv rfl <| .bi rfl <| .as rfl <| .z ?_
     exact .here (j + 1) (.of (.cons rfl (.cons rfl (.cons (svI (show (IntKind.wrap .i64 ((j : Int) + 1)) = (((j + 1) : Int)) by first | rfl | omega | exact wrap_le (by omega) (by omega) | (rw [wrap_le (by omega) (by omega)]; omega))) .nil))) .nil) ⟨(show (j + 1) ≤ a.length ∧ a.length = b.length ∧ allTo (j + 1) (fun i => Env.same (a.getD i default) (b.getD i default)) = true by exact ⟨by omega, by omega, allTo_step hI.2.2 (by simpa [] using c2)⟩), (show a.length - (j + 1) < a.length - j by omega)⟩
   ·have c1 := of_decide_eq_false c1
    refine .exit <| .seq <| .rs fun k13 => .as rfl <| .z <| .ret ?_
    exact fin0 (.inr rfl) (.one (svB (show (true) = (all2 Env.same a b) by (have hj : j = a.length := (by omega); subst hj; exact (all2_done _ hI.2.1 hI.2.2).symm))) .nil) (.dd .nil) rfl
theorem c_eqEntry (a : Entry) (b : Entry) : Trip Tryz.prog 151 [(true, 2), (true, 2)] (Entry.c a ++ Entry.c b) [(false, 1)] [.v (.bool (Entry.same a b))] [] := by
 refine Trip.of Tryz.func151 (by decide) (c := _) rfl rfl (Nat.le_of_ble_eq_true rfl) rfl (AftOk.nil _) <| .seq <| .rs fun k1 => .g (fun _ τ => ⟨_, .box (.no rfl) rfl rfl rfl rfl rfl τ⟩) <| .g (fun _ τ => ⟨_, .box (.no rfl) rfl rfl rfl rfl rfl τ⟩) <| .as rfl <| .z <| .seq <| .seq ?_
 refine .rs fun k2 => .fp t115 t2 rfl <| .ld t2 rfl (.ptr _ _ _ _ _ rfl) rfl <| .fp t115 t2 rfl <| .ld t2 rfl (.ptr _ _ _ _ _ rfl) rfl <| .bi rfl <| .z ?_
 refine .cond (t := a.line != b.line) rfl (fun c0 => ?_) (fun c0 => ?_)
 ·have c0 := (by simpa using c0 : ¬ (a.line = b.line))
  refine .seq <| .rs fun k3 => .as rfl <| .z <| .ret ?_
  exact fin0 (.inr rfl) (.one (svB (show (false) = (Entry.same a b) by (simp_all [Entry.same]))) .nil) (.dd .nil) rfl
 ·have c0 := (by simpa using c0 : a.line = b.line)
  refine .skip <| .seq <| .seq <| .rs fun k5 => .fp t115 t2 rfl <| .ld t2 rfl (.ptr _ _ _ _ _ rfl) rfl <| .fp t115 t2 rfl <| .ld t2 rfl (.ptr _ _ _ _ _ rfl) rfl <| .bi rfl ?_
  refine .z ?_
  refine .cond (t := a.pick != b.pick) rfl (fun c1 => ?_) (fun c1 => ?_)
  ·have c1 := (by simpa using c1 : ¬ (a.pick = b.pick))
   refine .seq <| .rs fun k6 => .as rfl <| .z <| .ret ?_
   exact fin0 (.inr rfl) (.one (svB (show (false) = (Entry.same a b) by (simp_all [Entry.same]))) .nil) (.dd .nil) rfl
  ·have c1 := (by simpa using c1 : a.pick = b.pick)
   refine .skip <| .seq <| .rs fun k8 => .as rfl <| .z <| .ret ?_
   exact fin0 (.inr rfl) (.one (svB (show (true) = (Entry.same a b) by (simp_all [Entry.same]))) .nil) (.dd .nil) rfl
theorem c_eqEntryS (a : List Entry) (b : List Entry) : Trip Tryz.prog 101 [(false, 1), (false, 1)] ([.sl false 115 2 (List.map Entry.c (a))] ++ [.sl false 115 2 (List.map Entry.c (b))]) [(false, 1)] [.v (.bool (all2 Entry.same a b))] [] := by
 refine Trip.of Tryz.func101 (by decide) (c := _) rfl rfl (Nat.le_of_ble_eq_true rfl) rfl (AftOk.nil _) <| .sl (t := 0) rfl fun hs1l => .sl (t := 1) rfl fun hs2l => .seq <| .rs fun k3 => .as rfl <| .z <| .seq <| .seq ?_
 refine .rs fun k4 => .mv rfl <| .g (fun _ τ => ⟨_, .len (.no rfl) rfl (z := (a.length : Int)) t49 rfl rfl rfl (.d _ _) (map_len _ _) rfl τ⟩) <| .mv rfl <| .g (fun _ τ => ⟨_, .len (.no rfl) rfl (z := (b.length : Int)) t49 rfl rfl rfl (.d _ _) (map_len _ _) rfl τ⟩) <| .bi rfl <| .z ?_
 refine .cond (t := (a.length : Int) != (b.length : Int)) rfl (fun c0 => ?_) (fun c0 => ?_)
 ·have c0 := (by simpa using c0 : ¬ ((a.length : Int) = (b.length : Int)))
  refine .seq <| .rs fun k5 => .as rfl <| .z <| .ret ?_
  exact fin0 (.inr rfl) (.one (svB (show (false) = (all2 Entry.same a b) by exact (all2_ne _ c0).symm)) .nil) (.dd .nil) rfl
 ·have c0 := (by simpa using c0 : (a.length : Int) = (b.length : Int))
  refine .skip <| .seq <| .seq <| .rs fun k7 => .as rfl <| .z <| .block ?_
  refine .loop (X := Nat) (fun ζ => .of [(0, .one (.d (.sl false 115 2 (List.map Entry.c (a))))), (1, .one (.d (.sl false 115 2 (List.map Entry.c (b))))), (5, .one (.d (.v (.int .i64 ((ζ : Int))))))] []) (fun ζ => ζ ≤ a.length ∧ a.length = b.length ∧ allTo ζ (fun i => Entry.same (a.getD i default) (b.getD i default)) = true) (fun ζ => a.length - ζ) ?_ ?_
  ·skip
   exact .here 0 (.of (.cons rfl (.cons rfl (.cons (svI (show (0) = ((0 : Int)) by first | rfl | omega | exact wrap_le (by omega) (by omega) | (rw [wrap_le (by omega) (by omega)]; omega))) .nil))) .nil) (show 0 ≤ a.length ∧ a.length = b.length ∧ allTo 0 (fun i => Entry.same (a.getD i default) (b.getD i default)) = true by exact ⟨by omega, by omega, rfl⟩)
  ·rintro j hI
   have hI : j ≤ a.length ∧ a.length = b.length ∧ allTo j (fun i => Entry.same (a.getD i default) (b.getD i default)) = true := hI
   refine .seq <| .seq <| .rs fun k8 => .mv rfl <| .mv rfl <| .g (fun _ τ => ⟨_, .len (.no rfl) rfl (z := (a.length : Int)) t49 rfl rfl rfl (.d _ _) (map_len _ _) rfl τ⟩) <| .bi rfl <| .z ?_
   refine .cond (t := decide ((j : Int) < (a.length : Int))) rfl (fun c1 => ?_) (fun c1 => ?_)
   ·have c1 := of_decide_eq_true c1
    refine .skip <| .seq <| .block <| .seq ?_
    refine .regD (X := Unit) (by kernel_rfl) (fun ζ => .of [(0, .one (.d (.sl false 115 2 (List.map Entry.c (a))))), (1, .one (.d (.sl false 115 2 (List.map Entry.c (b))))), (5, .one (.d (.v (.int .i64 ((j : Int)))))), (26, .one (.d (.v (.bool (!(Entry.same (a.getD j default) (b.getD j default)))))))] []) [⟨[0], some 17, [], []⟩, ⟨[5], some 18, [], []⟩, ⟨[17, 18], some 19, [], []⟩, ⟨[19], some 20, [], []⟩, ⟨[1], some 21, [], []⟩, ⟨[5], some 22, [], []⟩, ⟨[21, 22], some 23, [], []⟩, ⟨[23], some 24, [], []⟩, ⟨[20, 24], some 25, [], []⟩, ⟨[25], some 26, [], []⟩] (by kernel_rfl) (fun k9 => ?_) ?_
    ·skip
     refine .move (.no rfl) rfl rfl rfl rfl <| .move (.no rfl) rfl rfl rfl rfl <| .indexAddr (.no rfl) rfl (j) t49 rfl t115 rfl rfl rfl (.d _ _) rfl rfl rfl (map_get (by omega)) rfl rfl <| .load (.no rfl) rfl t115 rfl rfl (.d _) rfl rfl rfl rfl <| .move (.no rfl) rfl rfl rfl rfl <| .move (.no rfl) rfl rfl rfl rfl <| .indexAddr (.no rfl) rfl (j) t49 rfl t115 rfl rfl rfl (.d _ _) rfl rfl rfl (map_get (by omega)) rfl rfl <| .load (.no rfl) rfl t115 rfl rfl (.d _) rfl rfl rfl rfl <| .call (.no rfl) rfl [] [] (c_eqEntry (a.getD j default) (b.getD j default)) rfl rfl rfl rfl rfl (.dd (.dd (.dd (.dd .nil)))) rfl rfl (fun h => absurd rfl h) (.own [25, 0] .nil) (.nil) rfl rfl rfl (by simp) rfl rfl rfl ?_
     refine .un (.no rfl) rfl rfl rfl rfl rfl ?_
     exact .fin () (.of (.r rfl) .nil)
    intro _
    refine .cond (t := !(Entry.same (a.getD j default) (b.getD j default))) rfl (fun c2 => ?_) (fun c2 => ?_)
    ·have c2 := (nT id) c2
     refine .seq <| .rs fun k10 => .as rfl <| .z <| .ret ?_
     exact fin0 (.inr rfl) (.one (svB (show (false) = (all2 Entry.same a b) by exact (all2_fail _ (j := j) (by omega) (by simpa [] using c2)).symm)) .nil) (.dd .nil) rfl
    ·have c2 := (nF id) c2
     refine .skip <| .rs fun k12 => .mv rfl <| .bi rfl <| .as rfl <| .z ?_
     exact .here (j + 1) (.of (.cons rfl (.cons rfl (.cons (svI (show (IntKind.wrap .i64 ((j : Int) + 1)) = (((j + 1) : Int)) by first | rfl | omega | exact wrap_le (by omega) (by omega) | (rw [wrap_le (by omega) (by omega)]; omega))) .nil))) .nil) ⟨(show (j + 1) ≤ a.length ∧ a.length = b.length ∧ allTo (j + 1) (fun i => Entry.same (a.getD i default) (b.getD i default)) = true by exact ⟨by omega, by omega, allTo_step hI.2.2 (by simpa [] using c2)⟩), (show a.length - (j + 1) < a.length - j by omega)⟩
   ·have c1 := of_decide_eq_false c1
    refine .exit <| .seq <| .rs fun k13 => .as rfl <| .z <| .ret ?_
    exact fin0 (.inr rfl) (.one (svB (show (true) = (all2 Entry.same a b) by (have hj : j = a.length := (by omega); subst hj; exact (all2_done _ hI.2.1 hI.2.2).symm))) .nil) (.dd .nil) rfl
theorem c_eqPart (a : Part) (b : Part) : Trip Tryz.prog 50 [(true, 2), (true, 2)] (Part.c62 a ++ Part.c62 b) [(false, 1)] [.v (.bool (Part.same a b))] [] := by
 refine Trip.of Tryz.func50 (by decide) (c := _) rfl rfl (Nat.le_of_ble_eq_true rfl) rfl (AftOk.nil _) <| .sla (t := 0) 0 rfl rfl fun hs1l => .sla (t := 0) 1 rfl rfl fun hs2l => .sla (t := 1) 0 rfl rfl fun hs3l => .sla (t := 1) 1 rfl rfl fun hs4l => .seq <| .rs fun k5 => .g (fun _ τ => ⟨_, .box (.no rfl) rfl rfl rfl rfl rfl τ⟩) <| .g (fun _ τ => ⟨_, .box (.no rfl) rfl rfl rfl rfl rfl τ⟩) ?_
 refine .as rfl <| .z <| .seq <| .seq <| .rs fun k6 => .fp t62 t49 rfl <| .ld t49 rfl (.ptr _ _ _ _ _ rfl) rfl <| .fp t62 t49 rfl <| .ld t49 rfl (.ptr _ _ _ _ _ rfl) rfl ?_
 refine .c0 (c_eqEntryS a.token b.token) rfl (.dd (.dd .nil)) (.own [9, 0] .nil) rfl <| .un rfl <| .z ?_
 refine .cond (t := !(all2 Entry.same a.token b.token)) rfl (fun c0 => ?_) (fun c0 => ?_)
 ·have c0 := (nT id) c0
  refine .seq <| .rs fun k7 => .as rfl <| .z <| .ret ?_
  exact fin0 (.inr rfl) (.one (svB (show (false) = (Part.same a b) by (simp_all [Part.same]))) .nil) (.dd .nil) rfl
 ·have c0 := (nF id) c0
  refine .skip <| .seq <| .seq <| .rs fun k9 => .fp t62 t60 rfl <| .ld t60 rfl (.ptr _ _ _ _ _ rfl) rfl <| .fp t62 t60 rfl <| .ld t60 rfl (.ptr _ _ _ _ _ rfl) rfl <| .c0 (c_eqEnvS a.table b.table) rfl (.dd (.dd .nil)) (.own [15, 0] .nil) rfl ?_
  refine .un rfl <| .z ?_
  refine .cond (t := !(all2 Env.same a.table b.table)) rfl (fun c1 => ?_) (fun c1 => ?_)
  ·have c1 := (nT id) c1
   refine .seq <| .rs fun k10 => .as rfl <| .z <| .ret ?_
   exact fin0 (.inr rfl) (.one (svB (show (false) = (Part.same a b) by (simp_all [Part.same]))) .nil) (.dd .nil) rfl
  ·have c1 := (nF id) c1
   refine .skip <| .seq <| .rs fun k12 => .as rfl <| .z <| .ret ?_
   exact fin0 (.inr rfl) (.one (svB (show (true) = (Part.same a b) by (simp_all [Part.same]))) .nil) (.dd .nil) rfl
theorem c_eqPartS (a : List Part) (b : List Part) : Trip Tryz.prog 13 [(false, 1), (false, 1)] ([.sl false 62 2 (List.map Part.c62 (a))] ++ [.sl false 62 2 (List.map Part.c62 (b))]) [(false, 1)] [.v (.bool (all2 Part.same a b))] [] := by
 refine Trip.of Tryz.func13 (by decide) (c := _) rfl rfl (Nat.le_of_ble_eq_true rfl) rfl (AftOk.nil _) <| .sl (t := 0) rfl fun hs1l => .sl (t := 1) rfl fun hs2l => .seq <| .rs fun k3 => .as rfl <| .z <| .seq <| .seq ?_
 refine .rs fun k4 => .mv rfl <| .g (fun _ τ => ⟨_, .len (.no rfl) rfl (z := (a.length : Int)) t29 rfl rfl rfl (.d _ _) (map_len _ _) rfl τ⟩) <| .mv rfl <| .g (fun _ τ => ⟨_, .len (.no rfl) rfl (z := (b.length : Int)) t29 rfl rfl rfl (.d _ _) (map_len _ _) rfl τ⟩) <| .bi rfl <| .z ?_
 refine .cond (t := (a.length : Int) != (b.length : Int)) rfl (fun c0 => ?_) (fun c0 => ?_)
 ·have c0 := (by simpa using c0 : ¬ ((a.length : Int) = (b.length : Int)))
  refine .seq <| .rs fun k5 => .as rfl <| .z <| .ret ?_
  exact fin0 (.inr rfl) (.one (svB (show (false) = (all2 Part.same a b) by exact (all2_ne _ c0).symm)) .nil) (.dd .nil) rfl
 ·have c0 := (by simpa using c0 : (a.length : Int) = (b.length : Int))
  refine .skip <| .seq <| .seq <| .rs fun k7 => .as rfl <| .z <| .block ?_
  refine .loop (X := Nat) (fun ζ => .of [(0, .one (.d (.sl false 62 2 (List.map Part.c62 (a))))), (1, .one (.d (.sl false 62 2 (List.map Part.c62 (b))))), (5, .one (.d (.v (.int .i64 ((ζ : Int))))))] []) (fun ζ => ζ ≤ a.length ∧ a.length = b.length ∧ allTo ζ (fun i => Part.same (a.getD i default) (b.getD i default)) = true) (fun ζ => a.length - ζ) ?_ ?_
  ·skip
   exact .here 0 (.of (.cons rfl (.cons rfl (.cons (svI (show (0) = ((0 : Int)) by first | rfl | omega | exact wrap_le (by omega) (by omega) | (rw [wrap_le (by omega) (by omega)]; omega))) .nil))) .nil) (show 0 ≤ a.length ∧ a.length = b.length ∧ allTo 0 (fun i => Part.same (a.getD i default) (b.getD i default)) = true by exact ⟨by omega, by omega, rfl⟩)
  ·rintro j hI
   have hI : j ≤ a.length ∧ a.length = b.length ∧ allTo j (fun i => Part.same (a.getD i default) (b.getD i default)) = true := hI
   refine .seq <| .seq <| .rs fun k8 => .mv rfl <| .mv rfl <| .g (fun _ τ => ⟨_, .len (.no rfl) rfl (z := (a.length : Int)) t29 rfl rfl rfl (.d _ _) (map_len _ _) rfl τ⟩) <| .bi rfl <| .z ?_
   refine .cond (t := decide ((j : Int) < (a.length : Int))) rfl (fun c1 => ?_) (fun c1 => ?_)
   ·have c1 := of_decide_eq_true c1
    refine .skip <| .seq <| .block <| .seq ?_
    refine .regD (X := Unit) (by kernel_rfl) (fun ζ => .of [(0, .one (.d (.sl false 62 2 (List.map Part.c62 (a))))), (1, .one (.d (.sl false 62 2 (List.map Part.c62 (b))))), (5, .one (.d (.v (.int .i64 ((j : Int)))))), (26, .one (.d (.v (.bool (!(Part.same (a.getD j default) (b.getD j default)))))))] []) [⟨[0], some 17, [], []⟩, ⟨[5], some 18, [], []⟩, ⟨[17, 18], some 19, [], []⟩, ⟨[19], some 20, [], []⟩, ⟨[1], some 21, [], []⟩, ⟨[5], some 22, [], []⟩, ⟨[21, 22], some 23, [], []⟩, ⟨[23], some 24, [], []⟩, ⟨[20, 24], some 25, [], []⟩, ⟨[25], some 26, [], []⟩] (by kernel_rfl) (fun k9 => ?_) ?_
    ·skip
     refine .move (.no rfl) rfl rfl rfl rfl <| .move (.no rfl) rfl rfl rfl rfl <| .indexAddr (.no rfl) rfl (j) t29 rfl t62 rfl rfl rfl (.d _ _) rfl rfl rfl (map_get (by omega)) rfl rfl <| .load (.no rfl) rfl t62 rfl rfl (.d _) rfl rfl rfl rfl <| .move (.no rfl) rfl rfl rfl rfl <| .move (.no rfl) rfl rfl rfl rfl <| .indexAddr (.no rfl) rfl (j) t29 rfl t62 rfl rfl rfl (.d _ _) rfl rfl rfl (map_get (by omega)) rfl rfl <| .load (.no rfl) rfl t62 rfl rfl (.d _) rfl rfl rfl rfl <| .call (.no rfl) rfl [] [] (c_eqPart (a.getD j default) (b.getD j default)) rfl rfl rfl rfl rfl (.dd (.dd (.dd (.dd .nil)))) rfl rfl (fun h => absurd rfl h) (.own [25, 0] .nil) (.nil) rfl rfl rfl (by simp) rfl rfl rfl ?_
     refine .un (.no rfl) rfl rfl rfl rfl rfl ?_
     exact .fin () (.of (.r rfl) .nil)
    intro _
    refine .cond (t := !(Part.same (a.getD j default) (b.getD j default))) rfl (fun c2 => ?_) (fun c2 => ?_)
    ·have c2 := (nT id) c2
     refine .seq <| .rs fun k10 => .as rfl <| .z <| .ret ?_
     exact fin0 (.inr rfl) (.one (svB (show (false) = (all2 Part.same a b) by exact (all2_fail _ (j := j) (by omega) (by simpa [] using c2)).symm)) .nil) (.dd .nil) rfl
    ·have c2 := (nF id) c2
     refine .skip <| .rs fun k12 => .mv rfl <| .bi rfl <| .as rfl <| .z ?_
     exact .here (j + 1) (.of (.cons rfl (.cons rfl (.cons (svI (show (IntKind.wrap .i64 ((j : Int) + 1)) = (((j + 1) : Int)) by first | rfl | omega | exact wrap_le (by omega) (by omega) | (rw [wrap_le (by omega) (by omega)]; omega))) .nil))) .nil) ⟨(show (j + 1) ≤ a.length ∧ a.length = b.length ∧ allTo (j + 1) (fun i => Part.same (a.getD i default) (b.getD i default)) = true by exact ⟨by omega, by omega, allTo_step hI.2.2 (by simpa [] using c2)⟩), (show a.length - (j + 1) < a.length - j by omega)⟩
   ·have c1 := of_decide_eq_false c1
    refine .exit <| .seq <| .rs fun k13 => .as rfl <| .z <| .ret ?_
    exact fin0 (.inr rfl) (.one (svB (show (true) = (all2 Part.same a b) by (have hj : j = a.length := (by omega); subst hj; exact (all2_done _ hI.2.1 hI.2.2).symm))) .nil) (.dd .nil) rfl
end Go.Proofs

namespace Go.Proofs
open Go Go.Proofs Go.Ev

def i100 : TI := ⟨.int .u64, 1, 8, [.int .u64 0]⟩
theorem t100 : TyOk Tryz.prog 100 i100 := ⟨Tryz.underlying100, by kernel_rfl⟩
theorem z100 : ZOk Tryz.prog 100 i100 := ⟨t100, rfl⟩
def i200 : TI := ⟨.fn, 1, 8, [.nilFunc]⟩
theorem t200 : TyOk Tryz.prog 200 i200 := ⟨⟨_, _, _, Tryz.underlying200⟩, by kernel_rfl⟩
theorem z200 : ZOk Tryz.prog 200 i200 := ⟨t200, rfl⟩
theorem c_l8Size (d : Decl) : Trip Tryz.prog 125 [(true, 3)] (Decl.c33 d) [(false, 1)] [.v (.int .i64 (leavesOf d))] [] := by
 refine Trip.of Tryz.func125 (by decide) (c := _) rfl rfl (Nat.le_of_ble_eq_true rfl) rfl (AftOk.nil _) <| .sla (t := 0) 0 rfl rfl fun hs1l => .sla (t := 0) 1 rfl rfl fun hs2l => .sla (t := 0) 2 rfl rfl fun hs3l => .seq <| .rs fun k4 => .g (fun _ τ => ⟨_, .box (.no rfl) rfl rfl rfl rfl rfl τ⟩) <| .as rfl <| .z ?_
 refine .seq <| .rs fun k5 => .fp t33 t22 rfl <| .ld t22 rfl (.ptr _ _ _ _ _ rfl) rfl <| .g (fun _ τ => ⟨_, .len (.no rfl) rfl (z := (d.flags.length : Int)) t22 rfl rfl rfl (.d _ _) (map_len _ _) rfl τ⟩) <| .g (fun _ τ => ⟨_, .conv (.no rfl) rfl t3 t100 rfl rfl rfl rfl (wrap_u64 (by omega) (by omega)) rfl τ⟩) <| .g (fun _ τ => ⟨_, .shl (.no rfl) rfl rfl rfl rfl (by omega) rfl rfl τ⟩) <| .as rfl <| .z ?_
 refine .ret ?_
 exact fin0 (.inr rfl) (.one (svI (show (IntKind.wrap .i64 (1 * 2 ^ (min ((d.flags.length : Int)).toNat (IntKind.bits .i64)))) = (leavesOf d) by rfl)) .nil) (.dd .nil) rfl
theorem c_leaves (d : Decl) : Trip Tryz.prog 197 [(true, 3)] (Decl.c33 d) [(false, 1)] [.v (.int .i64 (leavesOf d))] [] := by
 refine Trip.of Tryz.func197 (by decide) (c := _) rfl rfl (Nat.le_of_ble_eq_true rfl) rfl (AftOk.nil _) <| .sla (t := 0) 0 rfl rfl fun hs1l => .sla (t := 0) 1 rfl rfl fun hs2l => .sla (t := 0) 2 rfl rfl fun hs3l => .seq <| .rs fun k4 => .g (fun _ τ => ⟨_, .box (.no rfl) rfl rfl rfl rfl rfl τ⟩) <| .as rfl <| .z ?_
 refine .seq <| .rs fun k5 => .fp t33 t22 rfl <| .ld t22 rfl (.ptr _ _ _ _ _ rfl) rfl <| .g (fun _ τ => ⟨_, .len (.no rfl) rfl (z := (d.flags.length : Int)) t22 rfl rfl rfl (.d _ _) (map_len _ _) rfl τ⟩) <| .g (fun _ τ => ⟨_, .shl (.no rfl) rfl rfl rfl rfl (by omega) rfl rfl τ⟩) <| .as rfl <| .z <| .ret ?_
 exact fin0 (.inr rfl) (.one (svI (show (IntKind.wrap .i64 (1 * 2 ^ (min ((d.flags.length : Int)).toNat (IntKind.bits .i64)))) = (leavesOf d) by rfl)) .nil) (.dd .nil) rfl
theorem c_sizeE (l : List Env) : Trip Tryz.prog 196 [(false, 1)] ([.sl false 98 3 (List.map Env.c98 (l))]) [(false, 1)] [.v (.int .i64 ((l.length : Int)))] [] := by
 refine Trip.of Tryz.func196 (by decide) (c := _) rfl rfl (Nat.le_of_ble_eq_true rfl) rfl (AftOk.nil _) <| .sl (t := 0) rfl fun hs1l => .seq <| .rs fun k2 => .as rfl <| .z <| .seq <| .rs fun k3 => .mv rfl ?_
 refine .g (fun _ τ => ⟨_, .len (.no rfl) rfl (z := (l.length : Int)) t60 rfl rfl rfl (.d _ _) (map_len _ _) rfl τ⟩) <| .as rfl <| .z <| .ret ?_
 exact fin0 (.inr rfl) (.one rfl .nil) (.dd .nil) rfl
theorem c_IndexFuncE (l : List Env) (F_p : FuncId) (first_p : List (Bool × List D)) (caps_p : List D) (p : Env → Bool) (h_p : ∀ (x0 : Env), FnTrip Tryz.prog F_p first_p caps_p [(true, 3)] (Env.c98 x0) [(false, 1)] [.v (.bool (p x0))]) : Trip Tryz.prog 208 [(false, 1), (false, 1)] ([.sl false 98 3 (List.map Env.c98 (l))] ++ [.fn F_p first_p caps_p]) [(false, 1)] [.v (.int .i64 (idx p l))] [] := by
 refine Trip.of Tryz.func208 (by decide) (c := _) rfl rfl (Nat.le_of_ble_eq_true rfl) rfl (AftOk.nil _) <| .sl (t := 0) rfl fun hs1l => .seq <| .rs fun k2 => .as rfl <| .z <| .seq <| .seq <| .rs fun k3 => ?_
 refine .mv rfl <| .g (fun _ τ => ⟨_, .len (.no rfl) rfl (z := (l.length : Int)) t60 rfl rfl rfl (.d _ _) (map_len _ _) rfl τ⟩) <| .mv rfl <| .z <| .block ?_
 refine .loop (X := Nat) (fun ζ => .of [(0, .one (.d (.sl false 98 3 (List.map Env.c98 (l))))), (1, .one (.d (.fn F_p first_p caps_p))), (7, .one (.d (.v (.int .i64 ((l.length : Int)))))), (8, .one (.d (.v (.int .i64 ((ζ : Int))))))] []) (fun ζ => ζ ≤ l.length ∧ allTo ζ (fun i => !p (l.getD i default)) = true) (fun ζ => l.length - ζ) ?_ ?_
 ·skip
  exact .here 0 (.of (.cons rfl (.cons rfl (.cons rfl (.cons (svI (show (0) = ((0 : Int)) by first | rfl | omega | exact wrap_le (by omega) (by omega) | (rw [wrap_le (by omega) (by omega)]; omega))) .nil)))) .nil) (show 0 ≤ l.length ∧ allTo 0 (fun i => !p (l.getD i default)) = true by exact ⟨by omega, rfl⟩)
 ·rintro j hI
  have hI : j ≤ l.length ∧ allTo j (fun i => !p (l.getD i default)) = true := hI
  refine .seq <| .rs fun k4 => .bi rfl <| .z <| .seq ?_
  refine .cond (t := decide ((j : Int) < (l.length : Int))) rfl (fun c0 => ?_) (fun c0 => ?_)
  ·have c0 := of_decide_eq_true c0
   refine .skip <| .seq <| .block <| .seq <| .rs fun k5 => .mv rfl <| .as rfl <| .z <| .seq ?_
   refine .rs fun k6 => .mv rfl <| .mv rfl <| .mv rfl <| .g (fun _ τ => ⟨_, .indexAddr (.no rfl) rfl (j) t60 rfl t98 rfl rfl rfl (.d _ _) rfl rfl rfl (map_get (by omega)) rfl rfl τ⟩) <| .lda t98 rfl (.d _) rfl <| .g (fun _ τ => ⟨_, .callF (.no rfl) rfl (ds := [.v (.bool ((l.getD j default).live)), .sl false 119 2 (List.map Iv.c ((l.getD j default).ints)), .sl false 119 2 (List.map Iv.c ((l.getD j default).arrs))]) (h_p (l.getD j default)) rfl rfl rfl rfl (.own [16, 0] .nil) rfl rfl rfl rfl rfl rfl τ⟩) <| .z ?_
   refine .cond (t := p (l.getD j default)) rfl (fun c1 => ?_) (fun c1 => ?_)
   ·have c1 := c1
    refine .seq <| .rs fun k7 => .mv rfl <| .as rfl <| .z <| .ret ?_
    exact fin0 (.inr rfl) (.one (svI (show ((j : Int)) = (idx p l) by exact (idx_found (j := j) (by omega) hI.2 (by simpa using c1)).symm)) .nil) (.dd .nil) rfl
   ·have c1 := c1
    refine .skip <| .rs fun k9 => .bi rfl <| .mv rfl <| .z ?_
    exact .here (j + 1) (.of (.cons rfl (.cons rfl (.cons rfl (.cons (svI (show (IntKind.wrap .i64 ((j : Int) + 1)) = (((j + 1) : Int)) by first | rfl | omega | exact wrap_le (by omega) (by omega) | (rw [wrap_le (by omega) (by omega)]; omega))) .nil)))) .nil) ⟨(show (j + 1) ≤ l.length ∧ allTo (j + 1) (fun i => !p (l.getD i default)) = true by exact ⟨by omega, allTo_step hI.2 (by simpa using c1)⟩), (show l.length - (j + 1) < l.length - j by omega)⟩
  ·have c0 := of_decide_eq_false c0
   refine .exit <| .seq <| .rs fun k10 => .as rfl <| .z <| .ret ?_
   exact fin0 (.inr rfl) (.one (svI (show (-1) = (idx p l) by exact (idx_none (by omega) hI.2).symm)) .nil) (.dd .nil) rfl
theorem c_ContainsFuncE (l : List Env) (F_p : FuncId) (first_p : List (Bool × List D)) (caps_p : List D) (p : Env → Bool) (h_p : ∀ (x0 : Env), FnTrip Tryz.prog F_p first_p caps_p [(true, 3)] (Env.c98 x0) [(false, 1)] [.v (.bool (p x0))]) : Trip Tryz.prog 179 [(false, 1), (false, 1)] ([.sl false 98 3 (List.map Env.c98 (l))] ++ [.fn F_p first_p caps_p]) [(false, 1)] [.v (.bool (l.any p))] [] := by
 refine Trip.of Tryz.func179 (by decide) (c := _) rfl rfl (Nat.le_of_ble_eq_true rfl) rfl (AftOk.nil _) <| .sl (t := 0) rfl fun hs1l => .seq <| .rs fun k2 => .as rfl <| .z <| .seq <| .rs fun k3 => .mv rfl ?_
 refine .mv rfl <| .c0 (c_IndexFuncE l F_p first_p caps_p p h_p) rfl (.dd (.dd .nil)) (.own [7, 0] .nil) rfl <| .bi rfl <| .as rfl <| .z <| .ret ?_
 exact fin0 (.inr rfl) (.one (svB (show (decide ((idx p l) ≥ 0)) = (l.any p) by exact idx_any _ _)) .nil) (.dd .nil) rfl
theorem c_areAll1E (x : Env) (F_p : FuncId) (first_p : List (Bool × List D)) (caps_p : List D) (p : Env → Bool) (h_p : ∀ (x0 : Env), FnTrip Tryz.prog F_p first_p caps_p [(true, 3)] (Env.c98 x0) [(false, 1)] [.v (.bool (p x0))]) : Trip Tryz.prog 218 [(true, 3), (false, 1)] (Env.c98 x ++ [.pt false [.fn F_p first_p caps_p]]) [(false, 1)] [.v (.bool (!p x))] [] := by
 refine Trip.of Tryz.func218 (by decide) (c := _) rfl rfl (Nat.le_of_ble_eq_true rfl) rfl (AftOk.nil _) <| .sla (t := 0) 1 rfl rfl fun hs1l => .sla (t := 0) 2 rfl rfl fun hs2l => .seq <| .rs fun k3 => .g (fun _ τ => ⟨_, .box (.no rfl) rfl rfl rfl rfl rfl τ⟩) <| .as rfl <| .z <| .seq ?_
 refine .rs fun k4 => .ld t200 rfl (.d _) rfl <| .lda t98 rfl (.ptr _ _ _ _ _ rfl) rfl <| .g (fun _ τ => ⟨_, .callF (.no rfl) rfl (ds := [.v (.bool (x.live)), .sl false 119 2 (List.map Iv.c (x.ints)), .sl false 119 2 (List.map Iv.c (x.arrs))]) (h_p x) rfl rfl rfl rfl (.own [6, 0] .nil) rfl rfl rfl rfl rfl rfl τ⟩) <| .un rfl <| .as rfl <| .z <| .ret ?_
 exact fin0 (.inr rfl) (.one (svB (show (!(p x)) = (!p x) by rfl)) .nil) (.dd .nil) rfl
theorem c_areAllE (l : List Env) (F_p : FuncId) (first_p : List (Bool × List D)) (caps_p : List D) (p : Env → Bool) (h_p : ∀ (x0 : Env), FnTrip Tryz.prog F_p first_p caps_p [(true, 3)] (Env.c98 x0) [(false, 1)] [.v (.bool (p x0))]) : Trip Tryz.prog 198 [(false, 1), (false, 1)] ([.sl false 98 3 (List.map Env.c98 (l))] ++ [.fn F_p first_p caps_p]) [(false, 1)] [.v (.bool (l.all p))] [] := by
 refine Trip.of Tryz.func198 (by decide) (c := _) rfl rfl (Nat.le_of_ble_eq_true rfl) rfl (AftOk.nil _) <| .sl (t := 0) rfl fun hs1l => .seq <| .rs fun k2 => .g (fun _ τ => ⟨_, .box (.no rfl) rfl rfl rfl rfl rfl τ⟩) <| .as rfl <| .z <| .seq <| .rs fun k3 => ?_
 refine .mv rfl <| .g (fun _ τ => ⟨_, .makeFunc (.no rfl) rfl rfl rfl rfl rfl τ⟩) <| .g (fun _ τ => ⟨_, .call (.no rfl) rfl [[3]] [([3], (k2, k2, .box [.d (.fn F_p first_p caps_p)]))] (c_ContainsFuncE l 218 [] [.pt false [.fn F_p first_p caps_p]] (fun x0 => !p x0) (fun x0 => c_areAll1E x0 F_p first_p caps_p p h_p)) rfl rfl rfl rfl rfl (.dd (.cons (Reads.clo0 (.cons (Reads.ptr0 (.head _) (.head _) (.cons (Reads.d _) .nil)) .nil)).gives .nil)) rfl rfl (fun _ => (ownCons (Owned.v _) ownNil)) (.own [7, 0] .nil) (.nil) rfl rfl rfl (AllH.get (.r rfl)) rfl rfl rfl τ⟩) <| .un rfl <| .as rfl <| .z <| .ret ?_
 exact fin0 (.inr rfl) (.one (svB (show (!(l.any (fun x0 => !p x0))) = (l.all p) by exact not_any _ _)) .nil) (.dd .nil) rfl
end Go.Proofs

namespace Go.Proofs
open Go Go.Proofs Go.Ev

theorem c_l8Join (a : List Env) (b : List Env) (hl : a.length = b.length ∧ a.length ≤ 1048576) (hf : ∀ i, i < a.length → (a.getD i default).live = true → (b.getD i default).live = true → (a.getD i default).ints.length = (b.getD i default).ints.length ∧ (a.getD i default).arrs.length = (b.getD i default).arrs.length) (hx : ∀ x ∈ a, x.ints.length ≤ 1048576 ∧ x.arrs.length ≤ 1048576) (hy : ∀ x ∈ b, x.ints.length ≤ 1048576 ∧ x.arrs.length ≤ 1048576) : Trip Tryz.prog 141 [(false, 1), (false, 1)] ([.sl false 98 3 (List.map Env.c98 (a))] ++ [.sl false 98 3 (List.map Env.c98 (b))]) [(false, 1)] [.sl true 98 3 (List.map Env.co98 (zip2 Env.join a b))] [] := by
 refine Trip.of Tryz.func141 (by decide) (c := _) rfl rfl (Nat.le_of_ble_eq_true rfl) rfl (AftOk.nil _) <| .sl (t := 0) rfl fun hs1l => .sl (t := 1) rfl fun hs2l => .seq <| .rs fun k3 => .as rfl <| .z <| .seq <| .rs fun k4 => ?_
 refine .g (fun _ τ => ⟨_, .buildSlice (.no rfl) rfl (els := []) t60 rfl z98 rfl rfl rfl rfl rfl rfl rfl rfl (by simp [i98]) .nil rfl rfl rfl τ⟩) <| .as rfl <| .z <| .seq <| .seq <| .rs fun k5 => .as rfl <| .z <| .block ?_
 refine .loop (X := Nat × Nat × Nat) (fun ζ => .of [(0, .one (.d (.sl false 98 3 (List.map Env.c98 (a))))), (1, .one (.d (.sl false 98 3 (List.map Env.c98 (b))))), (5, .one (.ref [7] (ζ.2.1))), (6, .one (.d (.v (.int .i64 ((ζ.1 : Int))))))] [([7], (ζ.2.1, ζ.2.2, .row 98 3 (List.map Env.co98 (zip2To Env.join a b ζ.1))))]) (fun ζ => ζ.1 ≤ a.length) (fun ζ => a.length - ζ.1) ?_ ?_
 ·skip
  exact .here (0, k4, k4) (.of (.cons rfl (.cons rfl (.cons rfl (.cons (svI (show (0) = ((0 : Int)) by first | rfl | omega | exact wrap_le (by omega) (by omega) | (rw [wrap_le (by omega) (by omega)]; omega))) .nil)))) (.cons (rowE (show [] = List.map Env.co98 (zip2To Env.join a b 0) by first | rfl | exact congrArg _ (zip2To_step _ _ _ _))) .nil)) (show 0 ≤ a.length by omega)
 ·rintro ⟨j, q6, q7⟩ hI
  have hI : j ≤ a.length := hI
  dsimp only
  refine .seq <| .seq <| .rs fun k8 => .mv rfl <| .mv rfl <| .g (fun _ τ => ⟨_, .len (.no rfl) rfl (z := (a.length : Int)) t60 rfl rfl rfl (.d _ _) (map_len _ _) rfl τ⟩) <| .bi rfl <| .z ?_
  refine .cond (t := decide ((j : Int) < (a.length : Int))) rfl (fun c0 => ?_) (fun c0 => ?_)
  ·have c0 := of_decide_eq_true c0
   refine .skip <| .seq <| .block ?_
   refine .regD (X := Nat) (by kernel_rfl) (fun ζ => .of [(0, .one (.d (.sl false 98 3 (List.map Env.c98 (a))))), (1, .one (.d (.sl false 98 3 (List.map Env.c98 (b))))), (5, .one (.ref [7] (ζ))), (6, .one (.d (.v (.int .i64 ((j : Int))))))] [([7], (ζ, ζ, .row 98 3 (List.map Env.co98 (zip2To Env.join a b j ++ [(Env.join (a.getD j default) (b.getD j default))]))))]) [⟨[5], some 14, [], []⟩, ⟨[0], some 15, [], []⟩, ⟨[6], some 16, [], []⟩, ⟨[15, 16], some 17, [], []⟩, ⟨[17], some 18, [], []⟩, ⟨[1], some 19, [], []⟩, ⟨[6], some 20, [], []⟩, ⟨[19, 20], some 21, [], []⟩, ⟨[21], some 22, [], []⟩, ⟨[18, 22], some 23, [], [[23, 1], [23, 2]]⟩, ⟨[23], some 24, [[23, 1], [23, 2]], [[23, 1], [23, 2], [24]]⟩, ⟨[14, 24], some 25, [[7], [24]], [[24], [7]]⟩, ⟨[25], some 5, [], []⟩] (by kernel_rfl) (fun k9 => ?_) ?_
   ·skip
    refine .move (.no rfl) rfl rfl rfl rfl <| .move (.no rfl) rfl rfl rfl rfl <| .move (.no rfl) rfl rfl rfl rfl <| .indexAddr (.no rfl) rfl (j) t60 rfl t98 rfl rfl rfl (.d _ _) rfl rfl rfl (map_get (by omega)) rfl rfl <| .load (.no rfl) rfl t98 rfl rfl (.d _) rfl rfl rfl rfl <| .move (.no rfl) rfl rfl rfl rfl <| .move (.no rfl) rfl rfl rfl rfl <| .indexAddr (.no rfl) rfl (j) t60 rfl t98 rfl rfl rfl (.d _ _) rfl rfl rfl (map_get (by omega)) rfl rfl <| .load (.no rfl) rfl t98 rfl rfl (.d _) rfl rfl rfl rfl ?_
    refine .call (.no rfl) rfl [] [] (c_l6Join (a.getD j default) (b.getD j default) (by first | exact hf j (by omega) | omega | (have h8 := hx _ (getD_mem (j := j) (by omega)); have h9 := hy _ (getD_mem (j := j) (by omega)); omega)) (by first | exact hf j (by omega) | omega | (have h8 := hx _ (getD_mem (j := j) (by omega)); have h9 := hy _ (getD_mem (j := j) (by omega)); omega))) rfl rfl rfl rfl rfl (.dd (.dd (.dd (.dd (.dd (.dd .nil)))))) rfl rfl (fun h => absurd rfl h) (.own [23, 0] (.own [23, 1] (.own [23, 2] .nil))) (.nil) rfl rfl rfl (by simp) rfl rfl rfl ?_
    refine .buildSlice (.no rfl) rfl (els := [[.v (.bool ((Env.join (a.getD j default) (b.getD j default)).live)), .sl true 119 2 (List.map Iv.c ((Env.join (a.getD j default) (b.getD j default)).ints)), .sl true 119 2 (List.map Iv.c ((Env.join (a.getD j default) (b.getD j default)).arrs))]]) t60 rfl z98 rfl rfl rfl rfl rfl rfl rfl rfl (by simp [i98]) (.cons _ _ _ _ _ _ (.d _) (.cons _ _ _ _ _ _ (.ref _ _ _ _ _ _ rfl) (.cons _ _ _ _ _ _ (.ref _ _ _ _ _ _ rfl) .nil))) rfl rfl rfl <| .append (.no rfl) rfl (l3 := List.map Env.co98 (zip2To Env.join a b j ++ [(Env.join (a.getD j default) (b.getD j default))])) t60 rfl z98 rfl rfl rfl rfl rfl rfl rfl rfl (.ref _ _ _ _ rfl) (.take _ _ _ _ _ rfl) rfl (by simp only [List.length_map, zip2To_len, i98]; simp; omega) (map_snoc _ _ _) rfl rfl <| .assign (.no rfl) rfl rfl rfl rfl ?_
    exact .fin (k9 + 1 + 1 + 1 + 1 + 1 + 1 + 1 + 1 + 1 + 1 + 1) (.of (.r rfl) (.r rfl))
   intro g10
   refine .rs fun k11 => .mv rfl <| .bi rfl <| .as rfl <| .z ?_
   exact .here ((j + 1), g10, g10) (.of (.cons rfl (.cons rfl (.cons rfl (.cons (svI (show (IntKind.wrap .i64 ((j : Int) + 1)) = (((j + 1) : Int)) by first | rfl | omega | exact wrap_le (by omega) (by omega) | (rw [wrap_le (by omega) (by omega)]; omega))) .nil)))) (.cons (rowE (show List.map Env.co98 (zip2To Env.join a b j ++ [(Env.join (a.getD j default) (b.getD j default))]) = List.map Env.co98 (zip2To Env.join a b (j + 1)) by first | rfl | exact congrArg _ (zip2To_step _ _ _ _))) .nil)) ⟨(show (j + 1) ≤ a.length by omega), (show a.length - (j + 1) < a.length - j by omega)⟩
  ·have c0 := of_decide_eq_false c0
   refine .exit <| .seq <| .rs fun k12 => .mv rfl <| .as rfl <| .z <| .ret ?_
   have e13 : (zip2To Env.join a b j) = (zip2 Env.join a b) := by exact zip2To_all _ hI (by omega)
   exact fin1 (.inr rfl) [] [([7], (q6, q7, .row 98 3 (List.map Env.co98 (zip2 Env.join a b))))] (.one rfl .nil) (.cons (.ref (.head _)) .nil) rfl rfl (.cons (rowE (congrArg (List.map Env.co98) e13)) .nil)
theorem c_l8Widen (a : List Env) (b : List Env) (l : List Int) (hl : a.length = b.length ∧ a.length ≤ 1048576) (hf : ∀ i, i < a.length → (a.getD i default).live = true → (b.getD i default).live = true → (a.getD i default).ints.length = (b.getD i default).ints.length ∧ (a.getD i default).arrs.length = (b.getD i default).arrs.length) (hx : ∀ x ∈ a, x.ints.length ≤ 1048576 ∧ x.arrs.length ≤ 1048576) (hy : ∀ x ∈ b, x.ints.length ≤ 1048576 ∧ x.arrs.length ≤ 1048576) : Trip Tryz.prog 142 [(false, 1), (false, 1), (false, 1)] ([.sl false 98 3 (List.map Env.c98 (a))] ++ [.sl false 98 3 (List.map Env.c98 (b))] ++ [.sl false 2 1 (List.map i64c (l))]) [(false, 1)] [.sl true 98 3 (List.map Env.co98 (zip2 (Env.joinW (fun x y => Iv.widenOk l x y)) a b))] [] := by
 refine Trip.of Tryz.func142 (by decide) (c := _) rfl rfl (Nat.le_of_ble_eq_true rfl) rfl (AftOk.nil _) <| .sl (t := 0) rfl fun hs1l => .sl (t := 1) rfl fun hs2l => .sl (t := 2) rfl fun hs3l => .seq <| .rs fun k4 => .as rfl <| .z <| .seq ?_
 refine .rs fun k5 => .g (fun _ τ => ⟨_, .buildSlice (.no rfl) rfl (els := []) t60 rfl z98 rfl rfl rfl rfl rfl rfl rfl rfl (by simp [i98]) .nil rfl rfl rfl τ⟩) <| .as rfl <| .z <| .seq <| .seq <| .rs fun k6 => .as rfl <| .z ?_
 refine .block ?_
 refine .loop (X := Nat × Nat × Nat) (fun ζ => .of [(0, .one (.d (.sl false 98 3 (List.map Env.c98 (a))))), (1, .one (.d (.sl false 98 3 (List.map Env.c98 (b))))), (2, .one (.d (.sl false 2 1 (List.map i64c (l))))), (7, .one (.ref [9] (ζ.2.1))), (8, .one (.d (.v (.int .i64 ((ζ.1 : Int))))))] [([9], (ζ.2.1, ζ.2.2, .row 98 3 (List.map Env.co98 (zip2To (Env.joinW (fun x y => Iv.widenOk l x y)) a b ζ.1))))]) (fun ζ => ζ.1 ≤ a.length) (fun ζ => a.length - ζ.1) ?_ ?_
 ·skip
  exact .here (0, k5, k5) (.of (.cons rfl (.cons rfl (.cons rfl (.cons rfl (.cons (svI (show (0) = ((0 : Int)) by first | rfl | omega | exact wrap_le (by omega) (by omega) | (rw [wrap_le (by omega) (by omega)]; omega))) .nil))))) (.cons (rowE (show [] = List.map Env.co98 (zip2To (Env.joinW (fun x y => Iv.widenOk l x y)) a b 0) by first | rfl | exact congrArg _ (zip2To_step _ _ _ _))) .nil)) (show 0 ≤ a.length by omega)
 ·rintro ⟨j, q7, q8⟩ hI
  have hI : j ≤ a.length := hI
  dsimp only
  refine .seq <| .seq <| .rs fun k9 => .mv rfl <| .mv rfl <| .g (fun _ τ => ⟨_, .len (.no rfl) rfl (z := (a.length : Int)) t60 rfl rfl rfl (.d _ _) (map_len _ _) rfl τ⟩) <| .bi rfl <| .z ?_
  refine .cond (t := decide ((j : Int) < (a.length : Int))) rfl (fun c0 => ?_) (fun c0 => ?_)
  ·have c0 := of_decide_eq_true c0
   refine .skip <| .seq <| .block ?_
   refine .regD (X := Nat) (by kernel_rfl) (fun ζ => .of [(0, .one (.d (.sl false 98 3 (List.map Env.c98 (a))))), (1, .one (.d (.sl false 98 3 (List.map Env.c98 (b))))), (2, .one (.d (.sl false 2 1 (List.map i64c (l))))), (7, .one (.ref [9] (ζ))), (8, .one (.d (.v (.int .i64 ((j : Int))))))] [([9], (ζ, ζ, .row 98 3 (List.map Env.co98 (zip2To (Env.joinW (fun x y => Iv.widenOk l x y)) a b j ++ [(Env.joinW (fun x y => Iv.widenOk l x y) (a.getD j default) (b.getD j default))]))))]) [⟨[7], some 16, [], []⟩, ⟨[0], some 17, [], []⟩, ⟨[8], some 18, [], []⟩, ⟨[17, 18], some 19, [], []⟩, ⟨[19], some 20, [], []⟩, ⟨[1], some 21, [], []⟩, ⟨[8], some 22, [], []⟩, ⟨[21, 22], some 23, [], []⟩, ⟨[23], some 24, [], []⟩, ⟨[2], some 25, [], []⟩, ⟨[20, 24, 25], some 26, [], [[26, 1], [26, 2]]⟩, ⟨[26], some 27, [[26, 1], [26, 2]], [[26, 1], [26, 2], [27]]⟩, ⟨[16, 27], some 28, [[9], [27]], [[27], [9]]⟩, ⟨[28], some 7, [], []⟩] (by kernel_rfl) (fun k10 => ?_) ?_
   ·skip
    refine .move (.no rfl) rfl rfl rfl rfl <| .move (.no rfl) rfl rfl rfl rfl <| .move (.no rfl) rfl rfl rfl rfl <| .indexAddr (.no rfl) rfl (j) t60 rfl t98 rfl rfl rfl (.d _ _) rfl rfl rfl (map_get (by omega)) rfl rfl <| .load (.no rfl) rfl t98 rfl rfl (.d _) rfl rfl rfl rfl <| .move (.no rfl) rfl rfl rfl rfl <| .move (.no rfl) rfl rfl rfl rfl <| .indexAddr (.no rfl) rfl (j) t60 rfl t98 rfl rfl rfl (.d _ _) rfl rfl rfl (map_get (by omega)) rfl rfl <| .load (.no rfl) rfl t98 rfl rfl (.d _) rfl rfl rfl rfl ?_
    refine .move (.no rfl) rfl rfl rfl rfl <| .call (.no rfl) rfl [] [] (c_l6Widen (a.getD j default) (b.getD j default) l (by first | exact hf j (by omega) | omega | (have h8 := hx _ (getD_mem (j := j) (by omega)); have h9 := hy _ (getD_mem (j := j) (by omega)); omega)) (by first | exact hf j (by omega) | omega | (have h8 := hx _ (getD_mem (j := j) (by omega)); have h9 := hy _ (getD_mem (j := j) (by omega)); omega))) rfl rfl rfl rfl rfl (.dd (.dd (.dd (.dd (.dd (.dd (.dd .nil))))))) rfl rfl (fun h => absurd rfl h) (.own [26, 0] (.own [26, 1] (.own [26, 2] .nil))) (.nil) rfl rfl rfl (by simp) rfl rfl rfl ?_
    refine .buildSlice (.no rfl) rfl (els := [[.v (.bool ((Env.joinW (fun x y => Iv.widenOk l x y) (a.getD j default) (b.getD j default)).live)), .sl true 119 2 (List.map Iv.c ((Env.joinW (fun x y => Iv.widenOk l x y) (a.getD j default) (b.getD j default)).ints)), .sl true 119 2 (List.map Iv.c ((Env.joinW (fun x y => Iv.widenOk l x y) (a.getD j default) (b.getD j default)).arrs))]]) t60 rfl z98 rfl rfl rfl rfl rfl rfl rfl rfl (by simp [i98]) (.cons _ _ _ _ _ _ (.d _) (.cons _ _ _ _ _ _ (.ref _ _ _ _ _ _ rfl) (.cons _ _ _ _ _ _ (.ref _ _ _ _ _ _ rfl) .nil))) rfl rfl rfl ?_
    refine .append (.no rfl) rfl (l3 := List.map Env.co98 (zip2To (Env.joinW (fun x y => Iv.widenOk l x y)) a b j ++ [(Env.joinW (fun x y => Iv.widenOk l x y) (a.getD j default) (b.getD j default))])) t60 rfl z98 rfl rfl rfl rfl rfl rfl rfl rfl (.ref _ _ _ _ rfl) (.take _ _ _ _ _ rfl) rfl (by simp only [List.length_map, zip2To_len, i98]; simp; omega) (map_snoc _ _ _) rfl rfl <| .assign (.no rfl) rfl rfl rfl rfl ?_
    exact .fin (k10 + 1 + 1 + 1 + 1 + 1 + 1 + 1 + 1 + 1 + 1 + 1 + 1) (.of (.r rfl) (.r rfl))
   intro g11
   refine .rs fun k12 => .mv rfl <| .bi rfl <| .as rfl <| .z ?_
   exact .here ((j + 1), g11, g11) (.of (.cons rfl (.cons rfl (.cons rfl (.cons rfl (.cons (svI (show (IntKind.wrap .i64 ((j : Int) + 1)) = (((j + 1) : Int)) by first | rfl | omega | exact wrap_le (by omega) (by omega) | (rw [wrap_le (by omega) (by omega)]; omega))) .nil))))) (.cons (rowE (show List.map Env.co98 (zip2To (Env.joinW (fun x y => Iv.widenOk l x y)) a b j ++ [(Env.joinW (fun x y => Iv.widenOk l x y) (a.getD j default) (b.getD j default))]) = List.map Env.co98 (zip2To (Env.joinW (fun x y => Iv.widenOk l x y)) a b (j + 1)) by first | rfl | exact congrArg _ (zip2To_step _ _ _ _))) .nil)) ⟨(show (j + 1) ≤ a.length by omega), (show a.length - (j + 1) < a.length - j by omega)⟩
  ·have c0 := of_decide_eq_false c0
   refine .exit <| .seq <| .rs fun k13 => .mv rfl <| .as rfl <| .z <| .ret ?_
   have e14 : (zip2To (Env.joinW (fun x y => Iv.widenOk l x y)) a b j) = (zip2 (Env.joinW (fun x y => Iv.widenOk l x y)) a b) := by exact zip2To_all _ hI (by omega)
   exact fin1 (.inr rfl) [] [([9], (q7, q8, .row 98 3 (List.map Env.co98 (zip2 (Env.joinW (fun x y => Iv.widenOk l x y)) a b))))] (.one rfl .nil) (.cons (.ref (.head _)) .nil) rfl rfl (.cons (rowE (congrArg (List.map Env.co98) e14)) .nil)
theorem c_tableWith (a : List Env) (b : List Env) (F_f : FuncId) (first_f : List (Bool × List D)) (caps_f : List D) (f : Iv → Iv → Iv) (h_f : ∀ (x0 : Iv) (x1 : Iv), FnTrip Tryz.prog F_f first_f caps_f [(true, 2), (true, 2)] (Iv.c x0 ++ Iv.c x1) [(true, 2)] [.v (.int .i64 ((f x0 x1).lo)), .v (.int .i64 ((f x0 x1).hi))]) (hl : a.length = b.length ∧ a.length ≤ 1048576) (hf : ∀ i, i < a.length → (a.getD i default).live = true → (b.getD i default).live = true → (a.getD i default).ints.length = (b.getD i default).ints.length ∧ (a.getD i default).arrs.length = (b.getD i default).arrs.length) (hx : ∀ x ∈ a, x.ints.length ≤ 1048576 ∧ x.arrs.length ≤ 1048576) (hy : ∀ x ∈ b, x.ints.length ≤ 1048576 ∧ x.arrs.length ≤ 1048576) : Trip Tryz.prog 97 [(false, 1), (false, 1), (false, 1)] ([.sl false 98 3 (List.map Env.c98 (a))] ++ [.sl false 98 3 (List.map Env.c98 (b))] ++ [.fn F_f first_f caps_f]) [(false, 1)] [.sl true 98 3 (List.map Env.co98 (zip2 (Env.joinW f) a b))] [] := by
 refine Trip.of Tryz.func97 (by decide) (c := _) rfl rfl (Nat.le_of_ble_eq_true rfl) rfl (AftOk.nil _) <| .sl (t := 0) rfl fun hs1l => .sl (t := 1) rfl fun hs2l => .seq <| .rs fun k3 => .as rfl <| .z <| .seq <| .rs fun k4 => ?_
 refine .as rfl <| .z <| .seq <| .seq <| .rs fun k5 => .mv rfl <| .g (fun _ τ => ⟨_, .len (.no rfl) rfl (z := (a.length : Int)) t60 rfl rfl rfl (.d _ _) (map_len _ _) rfl τ⟩) <| .mv rfl <| .z ?_
 refine .block ?_
 refine .loop (X := Nat × Nat × Nat) (fun ζ => .of [(1, .one (.d (.sl false 98 3 (List.map Env.c98 (b))))), (2, .one (.d (.fn F_f first_f caps_f))), (7, .one (.ref [26] (ζ.2.1))), (10, .one (.d (.sl false 98 3 (List.map Env.c98 (a))))), (11, .one (.d (.v (.int .i64 ((a.length : Int)))))), (12, .one (.d (.v (.int .i64 ((ζ.1 : Int))))))] [([26], (ζ.2.1, ζ.2.2, .row 98 3 (List.map Env.co98 (zip2To (Env.joinW f) a b ζ.1))))]) (fun ζ => ζ.1 ≤ a.length) (fun ζ => a.length - ζ.1) ?_ ?_
 ·skip
  refine .nilRow 7 [26] 98 3 rfl fun k8 => ?_
  exact .here (0, k8, k8) (.of (.cons rfl (.cons rfl (.cons rfl (.cons rfl (.cons rfl (.cons (svI (show (0) = ((0 : Int)) by first | rfl | omega | exact wrap_le (by omega) (by omega) | (rw [wrap_le (by omega) (by omega)]; omega))) .nil)))))) (.cons (rowE (show [] = List.map Env.co98 (zip2To (Env.joinW f) a b 0) by first | rfl | exact congrArg _ (zip2To_step _ _ _ _))) .nil)) (show 0 ≤ a.length by omega)
 ·rintro ⟨j, q6, q7⟩ hI
  have hI : j ≤ a.length := hI
  dsimp only
  refine .seq <| .rs fun k9 => .bi rfl <| .z <| .seq ?_
  refine .cond (t := decide ((j : Int) < (a.length : Int))) rfl (fun c0 => ?_) (fun c0 => ?_)
  ·have c0 := of_decide_eq_true c0
   refine .skip <| .seq <| .block <| .seq <| .rs fun k10 => .mv rfl <| .g (fun _ τ => ⟨_, .indexAddr (.no rfl) rfl (j) t60 rfl t98 rfl rfl rfl (.d _ _) rfl rfl rfl (map_get (by omega)) rfl rfl τ⟩) <| .lda t98 rfl (.d _) rfl <| .g (fun _ τ => ⟨_, .alloc (.no rfl) rfl z98 rfl rfl rfl τ⟩) ?_
   refine .as rfl <| .g (fun _ τ => ⟨_, .store (.no rfl) rfl t98 rfl rfl rfl rfl rfl rfl rfl rfl rfl τ⟩) <| .z ?_
   refine .regD (X := Nat) (by kernel_rfl) (fun ζ => .of [(1, .one (.d (.sl false 98 3 (List.map Env.c98 (b))))), (2, .one (.d (.fn F_f first_f caps_f))), (7, .one (.ref [26] (ζ))), (10, .one (.d (.sl false 98 3 (List.map Env.c98 (a))))), (11, .one (.d (.v (.int .i64 ((a.length : Int)))))), (12, .one (.d (.v (.int .i64 ((j : Int))))))] [([26], (ζ, ζ, .row 98 3 (List.map Env.co98 (zip2To (Env.joinW f) a b j ++ [(Env.joinW f (a.getD j default) (b.getD j default))]))))]) [⟨[7], some 17, [], []⟩, ⟨[9], some 18, [[9]], []⟩, ⟨[1], some 19, [], []⟩, ⟨[8], some 20, [], []⟩, ⟨[19, 20], some 21, [], []⟩, ⟨[21], some 22, [], []⟩, ⟨[2], some 23, [], []⟩, ⟨[18, 22, 23], some 24, [], [[24, 1], [24, 2]]⟩, ⟨[24], some 25, [[24, 1], [24, 2]], [[24, 1], [24, 2], [25]]⟩, ⟨[17, 25], some 26, [[26], [25]], [[25], [26]]⟩, ⟨[26], some 7, [], []⟩] (by kernel_rfl) (fun k11 => ?_) ?_
   ·skip
    refine .move (.no rfl) rfl rfl rfl rfl <| .load (.no rfl) rfl t98 rfl rfl (.ptr _ _ _ _ _ rfl) rfl rfl rfl rfl <| .move (.no rfl) rfl rfl rfl rfl <| .move (.no rfl) rfl rfl rfl rfl <| .indexAddr (.no rfl) rfl (j) t60 rfl t98 rfl rfl rfl (.d _ _) rfl rfl rfl (map_get (by omega)) rfl rfl <| .load (.no rfl) rfl t98 rfl rfl (.d _) rfl rfl rfl rfl <| .move (.no rfl) rfl rfl rfl rfl ?_
    refine .call (.no rfl) rfl [] [] (c_with (a.getD j default) (b.getD j default) F_f first_f caps_f f h_f (by first | exact hf j (by omega) | omega | (have h8 := hx _ (getD_mem (j := j) (by omega)); have h9 := hy _ (getD_mem (j := j) (by omega)); omega)) (by first | exact hf j (by omega) | omega | (have h8 := hx _ (getD_mem (j := j) (by omega)); have h9 := hy _ (getD_mem (j := j) (by omega)); omega))) rfl rfl rfl rfl rfl (.dd (.dd (.dd (.dd (.dd (.dd (.dd .nil))))))) rfl rfl (fun h => absurd rfl h) (.own [24, 0] (.own [24, 1] (.own [24, 2] .nil))) (.nil) rfl rfl rfl (by simp) rfl rfl rfl ?_
    refine .buildSlice (.no rfl) rfl (els := [[.v (.bool ((Env.joinW f (a.getD j default) (b.getD j default)).live)), .sl true 119 2 (List.map Iv.c ((Env.joinW f (a.getD j default) (b.getD j default)).ints)), .sl true 119 2 (List.map Iv.c ((Env.joinW f (a.getD j default) (b.getD j default)).arrs))]]) t60 rfl z98 rfl rfl rfl rfl rfl rfl rfl rfl (by simp [i98]) (.cons _ _ _ _ _ _ (.d _) (.cons _ _ _ _ _ _ (.ref _ _ _ _ _ _ rfl) (.cons _ _ _ _ _ _ (.ref _ _ _ _ _ _ rfl) .nil))) rfl rfl rfl <| .append (.no rfl) rfl (l3 := List.map Env.co98 (zip2To (Env.joinW f) a b j ++ [(Env.joinW f (a.getD j default) (b.getD j default))])) t60 rfl z98 rfl rfl rfl rfl rfl rfl rfl rfl (.ref _ _ _ _ rfl) (.take _ _ _ _ _ rfl) rfl (by simp only [List.length_map, zip2To_len, i98]; simp; omega) (map_snoc _ _ _) rfl rfl <| .assign (.no rfl) rfl rfl rfl rfl ?_
    exact .fin (k11 + 1 + 1 + 1 + 1 + 1 + 1 + 1 + 1 + 1) (.of (.r rfl) (.r rfl))
   intro g12
   refine .rs fun k13 => .bi rfl <| .mv rfl <| .z ?_
   exact .here ((j + 1), g12, g12) (.of (.cons rfl (.cons rfl (.cons rfl (.cons rfl (.cons rfl (.cons (svI (show (IntKind.wrap .i64 ((j : Int) + 1)) = (((j + 1) : Int)) by first | rfl | omega | exact wrap_le (by omega) (by omega) | (rw [wrap_le (by omega) (by omega)]; omega))) .nil)))))) (.cons (rowE (show List.map Env.co98 (zip2To (Env.joinW f) a b j ++ [(Env.joinW f (a.getD j default) (b.getD j default))]) = List.map Env.co98 (zip2To (Env.joinW f) a b (j + 1)) by first | rfl | exact congrArg _ (zip2To_step _ _ _ _))) .nil)) ⟨(show (j + 1) ≤ a.length by omega), (show a.length - (j + 1) < a.length - j by omega)⟩
  ·have c0 := of_decide_eq_false c0
   refine .exit <| .seq <| .rs fun k14 => .mv rfl <| .as rfl <| .z <| .ret ?_
   have e15 : (zip2To (Env.joinW f) a b j) = (zip2 (Env.joinW f) a b) := by exact zip2To_all _ hI (by omega)
   exact fin1 (.inr rfl) [] [([26], (q6, q7, .row 98 3 (List.map Env.co98 (zip2 (Env.joinW f) a b))))] (.one rfl .nil) (.cons (.ref (.head _)) .nil) rfl rfl (.cons (rowE (congrArg (List.map Env.co98) e15)) .nil)
end Go.Proofs

/- Contracts of the program's functions at this seat, printed by a program of ours and checked by Lean: each under the conditions of its own statement. -/
import Derived.Test.YtgpcioamhfaodaaGreatDoorF1
set_option linter.all false
set_option linter.unnecessarySimpa false
set_option linter.unusedSectionVars false
set_option linter.unusedSimpArgs false
set_option linter.unusedVariables false
namespace Go.Proofs
open Go Go.Proofs Go.Ev

def i86 : TI := ⟨.fn, 1, 8, [.nilFunc]⟩
theorem t86 : TyOk Tryz.prog 86 i86 := ⟨⟨_, _, _, Tryz.underlying86⟩, by kernel_rfl⟩
theorem z86 : ZOk Tryz.prog 86 i86 := ⟨t86, rfl⟩
theorem c_sIvHas (a : Iv) (n : Int) : Trip Tryz.prog 54 [(true, 2), (false, 1)] (Iv.c a ++ [.v (.int .i64 (n))]) [(false, 1)] [.v (.bool (Iv.has a n))] [] := by
 refine Trip.of Tryz.func54 (by decide) (c := _) rfl rfl (Nat.le_of_ble_eq_true rfl) rfl (AftOk.nil _) <| .seq <| .rs fun k1 => .g (fun _ τ => ⟨_, .box (.no rfl) rfl rfl rfl rfl rfl τ⟩) <| .as rfl <| .z <| .seq ?_
 refine .reg (X := Unit) (fun ζ => .of [(4, .one (.d (.v (.bool ((decide (a.lo ≤ n) && decide (n ≤ a.hi)))))))] []) [⟨[2], some 5, [], []⟩, ⟨[5], some 6, [[2]], []⟩, ⟨[1], some 7, [], []⟩, ⟨[6, 7], some 8, [], []⟩, ⟨[8], some 9, [], []⟩, ⟨[9, 1], some 10, [], []⟩, ⟨[9, 2], some 11, [], []⟩, ⟨[9, 11], some 12, [[2]], []⟩, ⟨[9, 10, 12], some 13, [], []⟩, ⟨[9, 13], some 14, [], []⟩, ⟨[14], some 4, [], []⟩] (fun k2 => ?_) ?_
 ·skip
  refine .fieldAddrP (.no rfl) rfl t70 rfl rfl t2 rfl rfl rfl rfl <| .load (.no rfl) rfl t2 rfl rfl (.ptr _ _ _ _ _ rfl) rfl rfl rfl rfl <| .move (.no rfl) rfl rfl rfl rfl <| .bin (.no rfl) rfl rfl rfl rfl rfl rfl <| .moveB (.no rfl) rfl rfl rfl rfl fun b3 g1_4 => ?_
  cases b3
  ·skip
   refine .off rfl rfl rfl rfl rfl rfl rfl <| .off rfl rfl rfl rfl rfl rfl rfl <| .off rfl rfl rfl rfl rfl rfl rfl <| .off rfl rfl rfl rfl rfl rfl rfl <| .pick (.no rfl) rfl rfl rfl rfl rfl <| .assign (.no rfl) rfl rfl rfl rfl ?_
   exact .fin () (.of (.cons (svB (show (false) = ((decide (a.lo ≤ n) && decide (n ≤ a.hi))) by first | (simp only [g1_4, Bool.true_or, Bool.false_or, Bool.true_and, Bool.false_and, Bool.not_true, Bool.not_false]; done) | simp [g1_4])) .nil) .nil)
  ·skip
   refine .move (.on rfl rfl rfl rfl rfl) rfl rfl rfl rfl <| .fieldAddrP (.on rfl rfl rfl rfl rfl) rfl t70 rfl rfl t2 rfl rfl rfl rfl <| .load (.on rfl rfl rfl rfl rfl) rfl t2 rfl rfl (.ptr _ _ _ _ _ rfl) rfl rfl rfl rfl <| .bin (.on rfl rfl rfl rfl rfl) rfl rfl rfl rfl rfl rfl <| .pick (.no rfl) rfl rfl rfl rfl rfl <| .assign (.no rfl) rfl rfl rfl rfl ?_
   exact .fin () (.of (.cons (svB (show (decide (n ≤ a.hi)) = ((decide (a.lo ≤ n) && decide (n ≤ a.hi))) by first | (simp only [g1_4, Bool.true_or, Bool.false_or, Bool.true_and, Bool.false_and, Bool.not_true, Bool.not_false]; done) | simp [g1_4])) .nil) .nil)
 intro _
 refine .ret ?_
 exact fin0 (.inr rfl) (.one (svB (show ((decide (a.lo ≤ n) && decide (n ≤ a.hi))) = (Iv.has a n) by (first | rfl | simp_all [Iv.has, inR]))) .nil) (.dd .nil) rfl
theorem c_has (a : Iv) (n : Int) : Trip Tryz.prog 52 [(true, 2), (false, 1)] (Iv.c a ++ [.v (.int .i64 (n))]) [(false, 1)] [.v (.bool (Iv.has a n))] [] := by
 refine Trip.of Tryz.func52 (by decide) (c := _) rfl rfl (Nat.le_of_ble_eq_true rfl) rfl (AftOk.nil _) <| .seq <| .rs fun k1 => .g (fun _ τ => ⟨_, .box (.no rfl) rfl rfl rfl rfl rfl τ⟩) <| .as rfl <| .z <| .seq <| .rs fun k2 => .mv rfl ?_
 refine .fp t70 t2 rfl <| .ld t2 rfl (.ptr _ _ _ _ _ rfl) rfl <| .fp t70 t2 rfl <| .ld t2 rfl (.ptr _ _ _ _ _ rfl) rfl <| .c0 (c_within n a.lo a.hi) rfl (.dd (.dd (.dd .nil))) (.own [10, 0] .nil) rfl <| .as rfl <| .z <| .ret ?_
 exact fin0 (.inr rfl) (.one (svB (show (inR n a.lo a.hi) = (Iv.has a n) by rfl)) .nil) (.dd .nil) rfl
theorem c_IndexFuncN (l : List Int) (F_p : FuncId) (first_p : List (Bool × List D)) (caps_p : List D) (p : Int → Bool) (h_p : ∀ (x0 : Int), FnTrip Tryz.prog F_p first_p caps_p [(false, 1)] ([.v (.int .i64 (x0))]) [(false, 1)] [.v (.bool (p x0))]) : Trip Tryz.prog 99 [(false, 1), (false, 1)] ([.sl false 2 1 (List.map i64c (l))] ++ [.fn F_p first_p caps_p]) [(false, 1)] [.v (.int .i64 (idx p l))] [] := by
 refine Trip.of Tryz.func99 (by decide) (c := _) rfl rfl (Nat.le_of_ble_eq_true rfl) rfl (AftOk.nil _) <| .sl (t := 0) rfl fun hs1l => .seq <| .rs fun k2 => .as rfl <| .z <| .seq <| .seq <| .rs fun k3 => ?_
 refine .mv rfl <| .g (fun _ τ => ⟨_, .len (.no rfl) rfl (z := (l.length : Int)) t31 rfl rfl rfl (.d _ _) (map_len _ _) rfl τ⟩) <| .mv rfl <| .z <| .block ?_
 refine .loop (X := Nat) (fun ζ => .of [(0, .one (.d (.sl false 2 1 (List.map i64c (l))))), (1, .one (.d (.fn F_p first_p caps_p))), (7, .one (.d (.v (.int .i64 ((l.length : Int)))))), (8, .one (.d (.v (.int .i64 ((ζ : Int))))))] []) (fun ζ => ζ ≤ l.length ∧ allTo ζ (fun i => !p (l.getD i default)) = true) (fun ζ => l.length - ζ) ?_ ?_
 ·skip
  exact .here 0 (.of (.cons rfl (.cons rfl (.cons rfl (.cons (svI (show (0) = ((0 : Int)) by first | rfl | omega | exact wrap_le (by omega) (by omega) | (rw [wrap_le (by omega) (by omega)]; omega))) .nil)))) .nil) (show 0 ≤ l.length ∧ allTo 0 (fun i => !p (l.getD i default)) = true by exact ⟨by omega, rfl⟩)
 ·rintro j hI
  have hI : j ≤ l.length ∧ allTo j (fun i => !p (l.getD i default)) = true := hI
  refine .seq <| .rs fun k4 => .bi rfl <| .z <| .seq ?_
  refine .cond (t := decide ((j : Int) < (l.length : Int))) rfl (fun c0 => ?_) (fun c0 => ?_)
  ·have c0 := of_decide_eq_true c0
   refine .skip <| .seq <| .block <| .seq <| .rs fun k5 => .mv rfl <| .as rfl <| .z <| .seq ?_
   refine .rs fun k6 => .mv rfl <| .mv rfl <| .mv rfl <| .g (fun _ τ => ⟨_, .indexAddr (.no rfl) rfl (j) t31 rfl t2 rfl rfl rfl (.d _ _) rfl rfl rfl (map_get (by omega)) rfl rfl τ⟩) <| .ld t2 rfl (.d _) rfl <| .g (fun _ τ => ⟨_, .callF (.no rfl) rfl (ds := [.v (.int .i64 (l.getD j default))]) (h_p (l.getD j default)) rfl rfl rfl rfl (.own [16, 0] .nil) rfl rfl rfl rfl rfl rfl τ⟩) <| .z ?_
   refine .cond (t := p (l.getD j default)) rfl (fun c1 => ?_) (fun c1 => ?_)
   ·have c1 := c1
    refine .seq <| .rs fun k7 => .mv rfl <| .as rfl <| .z <| .ret ?_
    exact fin0 (.inr rfl) (.one (svI (show ((j : Int)) = (idx p l) by exact (idx_found (j := j) (by omega) hI.2 (by simpa using c1)).symm)) .nil) (.dd .nil) rfl
   ·have c1 := c1
    refine .skip <| .rs fun k9 => .bi rfl <| .mv rfl <| .z ?_
    exact .here (j + 1) (.of (.cons rfl (.cons rfl (.cons rfl (.cons (svI (show (IntKind.wrap .i64 ((j : Int) + 1)) = (((j + 1) : Int)) by first | rfl | omega | exact wrap_le (by omega) (by omega) | (rw [wrap_le (by omega) (by omega)]; omega))) .nil)))) .nil) ⟨(show (j + 1) ≤ l.length ∧ allTo (j + 1) (fun i => !p (l.getD i default)) = true by exact ⟨by omega, allTo_step hI.2 (by simpa using c1)⟩), (show l.length - (j + 1) < l.length - j by omega)⟩
  ·have c0 := of_decide_eq_false c0
   refine .exit <| .seq <| .rs fun k10 => .as rfl <| .z <| .ret ?_
   exact fin0 (.inr rfl) (.one (svI (show (-1) = (idx p l) by exact (idx_none (by omega) hI.2).symm)) .nil) (.dd .nil) rfl
theorem c_ContainsFuncN (l : List Int) (F_p : FuncId) (first_p : List (Bool × List D)) (caps_p : List D) (p : Int → Bool) (h_p : ∀ (x0 : Int), FnTrip Tryz.prog F_p first_p caps_p [(false, 1)] ([.v (.int .i64 (x0))]) [(false, 1)] [.v (.bool (p x0))]) : Trip Tryz.prog 81 [(false, 1), (false, 1)] ([.sl false 2 1 (List.map i64c (l))] ++ [.fn F_p first_p caps_p]) [(false, 1)] [.v (.bool (l.any p))] [] := by
 refine Trip.of Tryz.func81 (by decide) (c := _) rfl rfl (Nat.le_of_ble_eq_true rfl) rfl (AftOk.nil _) <| .sl (t := 0) rfl fun hs1l => .seq <| .rs fun k2 => .as rfl <| .z <| .seq <| .rs fun k3 => .mv rfl ?_
 refine .mv rfl <| .c0 (c_IndexFuncN l F_p first_p caps_p p h_p) rfl (.dd (.dd .nil)) (.own [7, 0] .nil) rfl <| .bi rfl <| .as rfl <| .z <| .ret ?_
 exact fin0 (.inr rfl) (.one (svB (show (decide ((idx p l) ≥ 0)) = (l.any p) by exact idx_any _ _)) .nil) (.dd .nil) rfl
theorem c_areAll1N (x : Int) (F_p : FuncId) (first_p : List (Bool × List D)) (caps_p : List D) (p : Int → Bool) (h_p : ∀ (x0 : Int), FnTrip Tryz.prog F_p first_p caps_p [(false, 1)] ([.v (.int .i64 (x0))]) [(false, 1)] [.v (.bool (p x0))]) : Trip Tryz.prog 82 [(false, 1), (false, 1)] ([.v (.int .i64 (x))] ++ [.pt false [.fn F_p first_p caps_p]]) [(false, 1)] [.v (.bool (!p x))] [] := by
 refine Trip.of Tryz.func82 (by decide) (c := _) rfl rfl (Nat.le_of_ble_eq_true rfl) rfl (AftOk.nil _) <| .seq <| .rs fun k1 => .as rfl <| .z <| .seq <| .rs fun k2 => .ld t86 rfl (.d _) rfl <| .mv rfl ?_
 refine .g (fun _ τ => ⟨_, .callF (.no rfl) rfl (ds := [.v (.int .i64 (x))]) (h_p x) rfl rfl rfl rfl (.own [6, 0] .nil) rfl rfl rfl rfl rfl rfl τ⟩) <| .un rfl <| .as rfl <| .z <| .ret ?_
 exact fin0 (.inr rfl) (.one (svB (show (!(p x)) = (!p x) by rfl)) .nil) (.dd .nil) rfl
theorem c_areAllN (l : List Int) (F_p : FuncId) (first_p : List (Bool × List D)) (caps_p : List D) (p : Int → Bool) (h_p : ∀ (x0 : Int), FnTrip Tryz.prog F_p first_p caps_p [(false, 1)] ([.v (.int .i64 (x0))]) [(false, 1)] [.v (.bool (p x0))]) : Trip Tryz.prog 53 [(false, 1), (false, 1)] ([.sl false 2 1 (List.map i64c (l))] ++ [.fn F_p first_p caps_p]) [(false, 1)] [.v (.bool (l.all p))] [] := by
 refine Trip.of Tryz.func53 (by decide) (c := _) rfl rfl (Nat.le_of_ble_eq_true rfl) rfl (AftOk.nil _) <| .sl (t := 0) rfl fun hs1l => .seq <| .rs fun k2 => .g (fun _ τ => ⟨_, .box (.no rfl) rfl rfl rfl rfl rfl τ⟩) <| .as rfl <| .z <| .seq <| .rs fun k3 => ?_
 refine .mv rfl <| .g (fun _ τ => ⟨_, .makeFunc (.no rfl) rfl rfl rfl rfl rfl τ⟩) <| .g (fun _ τ => ⟨_, .call (.no rfl) rfl [[3]] [([3], (k2, k2, .box [.d (.fn F_p first_p caps_p)]))] (c_ContainsFuncN l 82 [] [.pt false [.fn F_p first_p caps_p]] (fun x0 => !p x0) (fun x0 => c_areAll1N x0 F_p first_p caps_p p h_p)) rfl rfl rfl rfl rfl (.dd (.cons (Reads.clo0 (.cons (Reads.ptr0 (.head _) (.head _) (.cons (Reads.d _) .nil)) .nil)).gives .nil)) rfl rfl (fun _ => (ownCons (Owned.v _) ownNil)) (.own [7, 0] .nil) (.nil) rfl rfl rfl (AllH.get (.r rfl)) rfl rfl rfl τ⟩) <| .un rfl <| .as rfl <| .z <| .ret ?_
 exact fin0 (.inr rfl) (.one (svB (show (!(l.any (fun x0 => !p x0))) = (l.all p) by exact not_any _ _)) .nil) (.dd .nil) rfl
theorem c_hasStore (e : Env) (s : Store) (hf : Fits e s) : Trip Tryz.prog 27 [(true, 3), (true, 3)] (Env.c43 e ++ Store.c35 s) [(false, 1)] [.v (.bool (Env.has e s))] [] := by
 refine Trip.of Tryz.func27 (by decide) (c := _) rfl rfl (Nat.le_of_ble_eq_true rfl) rfl (AftOk.nil _) <| .sla (t := 0) 1 rfl rfl fun hs1l => .sla (t := 0) 2 rfl rfl fun hs2l => .sla (t := 1) 0 rfl rfl fun hs3l => .sla (t := 1) 1 rfl rfl fun hs4l => .sla (t := 1) 2 rfl rfl fun hs5l => .seq <| .rs fun k6 => .g (fun _ τ => ⟨_, .box (.no rfl) rfl rfl rfl rfl rfl τ⟩) ?_
 refine .g (fun _ τ => ⟨_, .box (.no rfl) rfl rfl rfl rfl rfl τ⟩) <| .as rfl <| .z <| .seq <| .seq <| .rs fun k7 => .fp t43 t4 rfl <| .ld t4 rfl (.ptr _ _ _ _ _ rfl) rfl <| .un rfl ?_
 refine .z ?_
 refine .cond (t := !e.live) rfl (fun c0 => ?_) (fun c0 => ?_)
 ·have c0 := (nT id) c0
  refine .seq <| .rs fun k8 => .as rfl <| .z <| .ret ?_
  exact fin0 (.inr rfl) (.one (svB (show (false) = (Env.has e s) by (rw [Env.has_dead c0]))) .nil) (.dd .nil) rfl
 ·have c0 := (nF id) c0
  refine .skip <| .seq <| .seq <| .rs fun k10 => .fp t35 t31 rfl <| .ld t31 rfl (.ptr _ _ _ _ _ rfl) rfl <| .g (fun _ τ => ⟨_, .len (.no rfl) rfl (z := (s.ints.length : Int)) t31 rfl rfl rfl (.d _ _) (map_len _ _) rfl τ⟩) <| .mv rfl <| .z ?_
  refine .block ?_
  refine .loop (X := Nat) (fun ζ => .of [(2, .one (.ptr [2] (k6) 0)), (3, .one (.ptr [3] (k6 + 1) 0)), (13, .one (.d (.sl false 2 1 (List.map i64c (s.ints))))), (14, .one (.d (.v (.int .i64 ((s.ints.length : Int)))))), (15, .one (.d (.v (.int .i64 ((ζ : Int))))))] [([2], (k6, k6, .box [.d (.v (.bool (e.live))), .d (.sl false 70 2 (List.map Iv.c (e.ints))), .d (.sl false 70 2 (List.map Iv.c (e.arrs)))])), ([3], (k6 + 1, k6 + 1, .box [.d (.sl false 2 1 (List.map i64c (s.ints))), .d (.sl false 4 1 (List.map boolc (s.flags))), .d (.sl false 31 1 (List.map slc31 (s.arrs)))]))]) (fun ζ => ζ ≤ s.ints.length ∧ allTo ζ (fun x => Iv.has (e.ints.getD x default) (s.ints.getD x default)) = true) (fun ζ => s.ints.length - ζ) ?_ ?_
  ·skip
   exact .here 0 (.of (.cons rfl (.cons rfl (.cons rfl (.cons rfl (.cons (svI (show (0) = ((0 : Int)) by first | rfl | omega | exact wrap_le (by omega) (by omega) | (rw [wrap_le (by omega) (by omega)]; omega))) .nil))))) (.r rfl)) (show 0 ≤ s.ints.length ∧ allTo 0 (fun x => Iv.has (e.ints.getD x default) (s.ints.getD x default)) = true by exact ⟨by omega, rfl⟩)
  ·rintro j hI
   have hI : j ≤ s.ints.length ∧ allTo j (fun x => Iv.has (e.ints.getD x default) (s.ints.getD x default)) = true := hI
   have hj9 := hf c0
   refine .seq <| .rs fun k11 => .bi rfl <| .z <| .seq ?_
   refine .cond (t := decide ((j : Int) < (s.ints.length : Int))) rfl (fun c1 => ?_) (fun c1 => ?_)
   ·have c1 := of_decide_eq_true c1
    refine .skip <| .seq <| .block <| .seq <| .rs fun k12 => .mv rfl <| .g (fun _ τ => ⟨_, .indexAddr (.no rfl) rfl (j) t31 rfl t2 rfl rfl rfl (.d _ _) rfl rfl rfl (map_get (by omega)) rfl rfl τ⟩) <| .ld t2 rfl (.d _) rfl <| .as rfl ?_
    refine .as rfl <| .z <| .seq <| .rs fun k13 => .fp t43 t41 rfl <| .ld t41 rfl (.ptr _ _ _ _ _ rfl) rfl <| .mv rfl <| .g (fun _ τ => ⟨_, .indexAddr (.no rfl) rfl (j) t41 rfl t70 rfl rfl rfl (.d _ _) rfl rfl rfl (map_get (by omega)) rfl rfl τ⟩) <| .lda t70 rfl (.d _) rfl ?_
    refine .mv rfl <| .c0 (c_has (e.ints.getD j default) (s.ints.getD j default)) rfl (.dd (.dd (.dd .nil))) (.own [26, 0] .nil) rfl <| .un rfl <| .z ?_
    refine .cond (t := !(Iv.has (e.ints.getD j default) (s.ints.getD j default))) rfl (fun c2 => ?_) (fun c2 => ?_)
    ·have c2 := (nT id) c2
     refine .seq <| .rs fun k14 => .as rfl <| .z <| .ret ?_
     exact fin0 (.inr rfl) (.one (svB (show (false) = (Env.has e s) by (rw [Env.has_int (j := j) (by omega) c2]))) .nil) (.dd .nil) rfl
    ·have c2 := (nF id) c2
     refine .skip <| .rs fun k16 => .bi rfl <| .mv rfl <| .z ?_
     exact .here (j + 1) (.of (.cons rfl (.cons rfl (.cons rfl (.cons rfl (.cons (svI (show (IntKind.wrap .i64 ((j : Int) + 1)) = (((j + 1) : Int)) by first | rfl | omega | exact wrap_le (by omega) (by omega) | (rw [wrap_le (by omega) (by omega)]; omega))) .nil))))) (.r rfl)) ⟨(show (j + 1) ≤ s.ints.length ∧ allTo (j + 1) (fun x => Iv.has (e.ints.getD x default) (s.ints.getD x default)) = true by exact ⟨by omega, allTo_step hI.2 c2⟩), (show s.ints.length - (j + 1) < s.ints.length - j by omega)⟩
   ·have c1 := of_decide_eq_false c1
    refine .exit <| .seq <| .seq <| .rs fun k17 => .fp t35 t33 rfl <| .ld t33 rfl (.ptr _ _ _ _ _ rfl) rfl <| .g (fun _ τ => ⟨_, .len (.no rfl) rfl (z := (s.arrs.length : Int)) t33 rfl rfl rfl (.d _ _) (map_len _ _) rfl τ⟩) <| .mv rfl <| .z ?_
    refine .block ?_
    refine .loop (X := Nat) (fun ζ => .of [(2, .one (.ptr [2] (k6) 0)), (30, .one (.d (.sl false 31 1 (List.map slc31 (s.arrs))))), (31, .one (.d (.v (.int .i64 ((s.arrs.length : Int)))))), (32, .one (.d (.v (.int .i64 ((ζ : Int))))))] [([2], (k6, k6, .box [.d (.v (.bool (e.live))), .d (.sl false 70 2 (List.map Iv.c (e.ints))), .d (.sl false 70 2 (List.map Iv.c (e.arrs)))]))]) (fun ζ => ζ ≤ s.arrs.length ∧ allTo ζ (fun x => (s.arrs.getD x default).all (Iv.has (e.arrs.getD x default))) = true) (fun ζ => s.arrs.length - ζ) ?_ ?_
    ·skip
     exact .here 0 (.of (.cons rfl (.cons rfl (.cons rfl (.cons (svI (show (0) = ((0 : Int)) by first | rfl | omega | exact wrap_le (by omega) (by omega) | (rw [wrap_le (by omega) (by omega)]; omega))) .nil)))) (.r rfl)) (show 0 ≤ s.arrs.length ∧ allTo 0 (fun x => (s.arrs.getD x default).all (Iv.has (e.arrs.getD x default))) = true by exact ⟨by omega, rfl⟩)
    ·rintro i hI
     have hI : i ≤ s.arrs.length ∧ allTo i (fun x => (s.arrs.getD x default).all (Iv.has (e.arrs.getD x default))) = true := hI
     have hI0 := ‹j ≤ s.ints.length ∧ _›
     refine .seq <| .rs fun k18 => .bi rfl <| .z <| .seq ?_
     refine .cond (t := decide ((i : Int) < (s.arrs.length : Int))) rfl (fun c3 => ?_) (fun c3 => ?_)
     ·have c3 := of_decide_eq_true c3
      refine .skip <| .seq <| .block <| .seq <| .rs fun k19 => .mv rfl <| .g (fun _ τ => ⟨_, .indexAddr (.no rfl) rfl (i) t33 rfl t31 rfl rfl rfl (.d _ _) rfl rfl rfl (map_get (by omega)) rfl rfl τ⟩) <| .ld t31 rfl (.d _) rfl <| .as rfl ?_
      refine .as rfl <| .z <| .seq <| .rs fun k20 => .mv rfl <| .fp t43 t41 rfl <| .ld t41 rfl (.ptr _ _ _ _ _ rfl) rfl <| .mv rfl <| .g (fun _ τ => ⟨_, .indexAddr (.no rfl) rfl (i) t41 rfl t70 rfl rfl rfl (.d _ _) rfl rfl rfl (map_get (by omega)) rfl rfl τ⟩) ?_
      refine .lda t70 rfl (.d _) rfl <| .g (fun _ τ => ⟨_, .makeFunc (.no rfl) rfl rfl rfl rfl rfl τ⟩) <| .c0 (c_areAllN (s.arrs.getD i default) 52 [(true, [.v (.int .i64 ((e.arrs.getD i default).lo)), .v (.int .i64 ((e.arrs.getD i default).hi))])] [] (fun x0 => Iv.has (e.arrs.getD i default) x0) (fun x0 => c_has (e.arrs.getD i default) x0)) rfl (.dd (.cons (Reads.clo1 (.cons (Reads.d _) (.cons (Reads.d _) .nil)) (.nil)).gives .nil)) (.own [44, 0] .nil) rfl <| .un rfl <| .z ?_
      refine .cond (t := !((s.arrs.getD i default).all (fun x0 => Iv.has (e.arrs.getD i default) x0))) rfl (fun c4 => ?_) (fun c4 => ?_)
      ·have c4 := (nT id) c4
       refine .seq <| .rs fun k21 => .as rfl <| .z <| .ret ?_
       exact fin0 (.inr rfl) (.one (svB (show (false) = (Env.has e s) by (rw [Env.has_arr (j := i) (by omega) c4]))) .nil) (.dd .nil) rfl
      ·have c4 := (nF id) c4
       refine .skip <| .rs fun k23 => .bi rfl <| .mv rfl <| .z ?_
       exact .here (i + 1) (.of (.cons rfl (.cons rfl (.cons rfl (.cons (svI (show (IntKind.wrap .i64 ((i : Int) + 1)) = (((i + 1) : Int)) by first | rfl | omega | exact wrap_le (by omega) (by omega) | (rw [wrap_le (by omega) (by omega)]; omega))) .nil)))) (.r rfl)) ⟨(show (i + 1) ≤ s.arrs.length ∧ allTo (i + 1) (fun x => (s.arrs.getD x default).all (Iv.has (e.arrs.getD x default))) = true by exact ⟨by omega, allTo_step hI.2 c4⟩), (show s.arrs.length - (i + 1) < s.arrs.length - i by omega)⟩
     ·have c3 := of_decide_eq_false c3
      refine .exit <| .seq <| .rs fun k24 => .as rfl <| .z <| .ret ?_
      exact fin0 (.inr rfl) (.one (svB (show (true) = (Env.has e s) by (rw [Env.has_done c0 (i := j) (by omega) hI0.2 (j := i) (by omega) hI.2]))) .nil) (.dd .nil) rfl
theorem c_l6Has (e : Env) (s : Store) (hf : Fits e s) (hst : Store.small s) : Trip Tryz.prog 29 [(true, 3), (true, 3)] (Env.c43 e ++ Store.c35 s) [(false, 1)] [.v (.bool (Env.has e s))] [] := by
 refine Trip.of Tryz.func29 (by decide) (c := _) rfl rfl (Nat.le_of_ble_eq_true rfl) rfl (AftOk.nil _) <| .sla (t := 0) 1 rfl rfl fun hs1l => .sla (t := 0) 2 rfl rfl fun hs2l => .sla (t := 1) 0 rfl rfl fun hs3l => .sla (t := 1) 1 rfl rfl fun hs4l => .sla (t := 1) 2 rfl rfl fun hs5l => .seq <| .rs fun k6 => .g (fun _ τ => ⟨_, .box (.no rfl) rfl rfl rfl rfl rfl τ⟩) ?_
 refine .g (fun _ τ => ⟨_, .box (.no rfl) rfl rfl rfl rfl rfl τ⟩) <| .as rfl <| .z <| .seq <| .seq <| .rs fun k7 => .fp t43 t4 rfl <| .ld t4 rfl (.ptr _ _ _ _ _ rfl) rfl <| .un rfl ?_
 refine .z ?_
 refine .cond (t := !e.live) rfl (fun c0 => ?_) (fun c0 => ?_)
 ·have c0 := (nT id) c0
  refine .seq <| .rs fun k8 => .as rfl <| .z <| .ret ?_
  exact fin0 (.inr rfl) (.one (svB (show (false) = (Env.has e s) by (rw [Env.has_dead c0]))) .nil) (.dd .nil) rfl
 ·have c0 := (nF id) c0
  refine .skip <| .seq <| .seq <| .rs fun k10 => .as rfl <| .z <| .block ?_
  refine .loop (X := Nat) (fun ζ => .of [(2, .one (.ptr [2] (k6) 0)), (3, .one (.ptr [3] (k6 + 1) 0)), (5, .one (.d (.v (.int .i64 ((ζ : Int))))))] [([2], (k6, k6, .box [.d (.v (.bool (e.live))), .d (.sl false 70 2 (List.map Iv.c (e.ints))), .d (.sl false 70 2 (List.map Iv.c (e.arrs)))])), ([3], (k6 + 1, k6 + 1, .box [.d (.sl false 2 1 (List.map i64c (s.ints))), .d (.sl false 4 1 (List.map boolc (s.flags))), .d (.sl false 31 1 (List.map slc31 (s.arrs)))]))]) (fun ζ => ζ ≤ e.ints.length ∧ allTo ζ (fun x => Iv.has (e.ints.getD x default) (s.ints.getD x default)) = true) (fun ζ => e.ints.length - ζ) ?_ ?_
  ·skip
   exact .here 0 (.of (.cons rfl (.cons rfl (.cons (svI (show (0) = ((0 : Int)) by first | rfl | omega | exact wrap_le (by omega) (by omega) | (rw [wrap_le (by omega) (by omega)]; omega))) .nil))) (.r rfl)) (show 0 ≤ e.ints.length ∧ allTo 0 (fun x => Iv.has (e.ints.getD x default) (s.ints.getD x default)) = true by exact ⟨by omega, rfl⟩)
  ·rintro j hI
   have hI : j ≤ e.ints.length ∧ allTo j (fun x => Iv.has (e.ints.getD x default) (s.ints.getD x default)) = true := hI
   have hj9 := hf c0
   refine .seq <| .seq <| .rs fun k11 => .mv rfl <| .fp t43 t41 rfl <| .ld t41 rfl (.ptr _ _ _ _ _ rfl) rfl <| .g (fun _ τ => ⟨_, .len (.no rfl) rfl (z := (e.ints.length : Int)) t41 rfl rfl rfl (.d _ _) (map_len _ _) rfl τ⟩) <| .bi rfl <| .z ?_
   refine .cond (t := decide ((j : Int) < (e.ints.length : Int))) rfl (fun c1 => ?_) (fun c1 => ?_)
   ·have c1 := of_decide_eq_true c1
    refine .skip <| .seq <| .block <| .seq ?_
    refine .regD (X := Unit) (by kernel_rfl) (fun ζ => .of [(2, .one (.ptr [2] (k6) 0)), (3, .one (.ptr [3] (k6 + 1) 0)), (5, .one (.d (.v (.int .i64 ((j : Int)))))), (29, .one (.d (.v (.bool (!(Iv.has (e.ints.getD j default) (s.ints.getD j default)))))))] [([2], (k6, k6, .box [.d (.v (.bool (e.live))), .d (.sl false 70 2 (List.map Iv.c (e.ints))), .d (.sl false 70 2 (List.map Iv.c (e.arrs)))])), ([3], (k6 + 1, k6 + 1, .box [.d (.sl false 2 1 (List.map i64c (s.ints))), .d (.sl false 4 1 (List.map boolc (s.flags))), .d (.sl false 31 1 (List.map slc31 (s.arrs)))]))]) [⟨[2], some 18, [], []⟩, ⟨[18], some 19, [[2]], []⟩, ⟨[5], some 20, [], []⟩, ⟨[19, 20], some 21, [], []⟩, ⟨[21], some 22, [], []⟩, ⟨[3], some 23, [], []⟩, ⟨[23], some 24, [[3]], []⟩, ⟨[5], some 25, [], []⟩, ⟨[24, 25], some 26, [], []⟩, ⟨[26], some 27, [], []⟩, ⟨[22, 27], some 28, [], []⟩, ⟨[28], some 29, [], []⟩] (by kernel_rfl) (fun k12 => ?_) ?_
    ·skip
     refine .fieldAddrP (.no rfl) rfl t43 rfl rfl t41 rfl rfl rfl rfl <| .load (.no rfl) rfl t41 rfl rfl (.ptr _ _ _ _ _ rfl) rfl rfl rfl rfl <| .move (.no rfl) rfl rfl rfl rfl <| .indexAddr (.no rfl) rfl (j) t41 rfl t70 rfl rfl rfl (.d _ _) rfl rfl rfl (map_get (by omega)) rfl rfl <| .load (.no rfl) rfl t70 rfl rfl (.d _) rfl rfl rfl rfl <| .fieldAddrP (.no rfl) rfl t35 rfl rfl t31 rfl rfl rfl rfl <| .load (.no rfl) rfl t31 rfl rfl (.ptr _ _ _ _ _ rfl) rfl rfl rfl rfl <| .move (.no rfl) rfl rfl rfl rfl <| .indexAddr (.no rfl) rfl (j) t31 rfl t2 rfl rfl rfl (.d _ _) rfl rfl rfl (map_get (by omega)) rfl rfl ?_
     refine .load (.no rfl) rfl t2 rfl rfl (.d _) rfl rfl rfl rfl <| .call (.no rfl) rfl [] [] (c_sIvHas (e.ints.getD j default) (s.ints.getD j default)) rfl rfl rfl rfl rfl (.dd (.dd (.dd .nil))) rfl rfl (fun h => absurd rfl h) (.own [28, 0] .nil) (.nil) rfl rfl rfl (by simp) rfl rfl rfl <| .un (.no rfl) rfl rfl rfl rfl rfl ?_
     exact .fin () (.of (.r rfl) (.r rfl))
    intro _
    refine .cond (t := !(Iv.has (e.ints.getD j default) (s.ints.getD j default))) rfl (fun c2 => ?_) (fun c2 => ?_)
    ·have c2 := (nT id) c2
     refine .seq <| .rs fun k13 => .as rfl <| .z <| .ret ?_
     exact fin0 (.inr rfl) (.one (svB (show (false) = (Env.has e s) by (rw [Env.has_int (j := j) (by omega) c2]))) .nil) (.dd .nil) rfl
    ·have c2 := (nF id) c2
     refine .skip <| .rs fun k15 => .mv rfl <| .bi rfl <| .as rfl <| .z ?_
     exact .here (j + 1) (.of (.cons rfl (.cons rfl (.cons (svI (show (IntKind.wrap .i64 ((j : Int) + 1)) = (((j + 1) : Int)) by first | rfl | omega | exact wrap_le (by omega) (by omega) | (rw [wrap_le (by omega) (by omega)]; omega))) .nil))) (.r rfl)) ⟨(show (j + 1) ≤ e.ints.length ∧ allTo (j + 1) (fun x => Iv.has (e.ints.getD x default) (s.ints.getD x default)) = true by exact ⟨by omega, allTo_step hI.2 c2⟩), (show e.ints.length - (j + 1) < e.ints.length - j by omega)⟩
   ·have c1 := of_decide_eq_false c1
    refine .exit <| .seq <| .seq <| .rs fun k16 => .as rfl <| .z <| .block ?_
    refine .loop (X := Nat) (fun ζ => .of [(2, .one (.ptr [2] (k6) 0)), (3, .one (.ptr [3] (k6 + 1) 0)), (6, .one (.d (.v (.int .i64 ((ζ : Int))))))] [([2], (k6, k6, .box [.d (.v (.bool (e.live))), .d (.sl false 70 2 (List.map Iv.c (e.ints))), .d (.sl false 70 2 (List.map Iv.c (e.arrs)))])), ([3], (k6 + 1, k6 + 1, .box [.d (.sl false 2 1 (List.map i64c (s.ints))), .d (.sl false 4 1 (List.map boolc (s.flags))), .d (.sl false 31 1 (List.map slc31 (s.arrs)))]))]) (fun ζ => ζ ≤ e.arrs.length ∧ allTo ζ (fun x => (s.arrs.getD x default).all (Iv.has (e.arrs.getD x default))) = true) (fun ζ => e.arrs.length - ζ) ?_ ?_
    ·skip
     exact .here 0 (.of (.cons rfl (.cons rfl (.cons (svI (show (0) = ((0 : Int)) by first | rfl | omega | exact wrap_le (by omega) (by omega) | (rw [wrap_le (by omega) (by omega)]; omega))) .nil))) (.r rfl)) (show 0 ≤ e.arrs.length ∧ allTo 0 (fun x => (s.arrs.getD x default).all (Iv.has (e.arrs.getD x default))) = true by exact ⟨by omega, rfl⟩)
    ·rintro i hI
     have hI : i ≤ e.arrs.length ∧ allTo i (fun x => (s.arrs.getD x default).all (Iv.has (e.arrs.getD x default))) = true := hI
     have hI0 := ‹j ≤ e.ints.length ∧ _›
     refine .seq <| .seq <| .rs fun k17 => .mv rfl <| .fp t43 t41 rfl <| .ld t41 rfl (.ptr _ _ _ _ _ rfl) rfl <| .g (fun _ τ => ⟨_, .len (.no rfl) rfl (z := (e.arrs.length : Int)) t41 rfl rfl rfl (.d _ _) (map_len _ _) rfl τ⟩) <| .bi rfl <| .z ?_
     refine .cond (t := decide ((i : Int) < (e.arrs.length : Int))) rfl (fun c3 => ?_) (fun c3 => ?_)
     ·have c3 := of_decide_eq_true c3
      refine .skip <| .seq <| .block <| .seq <| .rs fun k18 => .as rfl <| .z <| .block ?_
      refine .loop (X := Nat) (fun ζ => .of [(2, .one (.ptr [2] (k6) 0)), (3, .one (.ptr [3] (k6 + 1) 0)), (6, .one (.d (.v (.int .i64 ((i : Int)))))), (7, .one (.d (.v (.int .i64 ((ζ : Int))))))] [([2], (k6, k6, .box [.d (.v (.bool (e.live))), .d (.sl false 70 2 (List.map Iv.c (e.ints))), .d (.sl false 70 2 (List.map Iv.c (e.arrs)))])), ([3], (k6 + 1, k6 + 1, .box [.d (.sl false 2 1 (List.map i64c (s.ints))), .d (.sl false 4 1 (List.map boolc (s.flags))), .d (.sl false 31 1 (List.map slc31 (s.arrs)))]))]) (fun ζ => ζ ≤ (s.arrs.getD i default).length ∧ allTo ζ (fun x => Iv.has (e.arrs.getD i default) ((s.arrs.getD i default).getD x default)) = true) (fun ζ => (s.arrs.getD i default).length - ζ) ?_ ?_
      ·skip
       exact .here 0 (.of (.cons rfl (.cons rfl (.cons rfl (.cons (svI (show (0) = ((0 : Int)) by first | rfl | omega | exact wrap_le (by omega) (by omega) | (rw [wrap_le (by omega) (by omega)]; omega))) .nil)))) (.r rfl)) (show 0 ≤ (s.arrs.getD i default).length ∧ allTo 0 (fun x => Iv.has (e.arrs.getD i default) ((s.arrs.getD i default).getD x default)) = true by exact ⟨by omega, rfl⟩)
      ·rintro q hI
       have hI : q ≤ (s.arrs.getD i default).length ∧ allTo q (fun x => Iv.has (e.arrs.getD i default) ((s.arrs.getD i default).getD x default)) = true := hI
       have hI1 := ‹i ≤ e.arrs.length ∧ _›
       have hS9 := hst.2.2.2 _ (getD_mem (a := s.arrs) (j := i) (by omega))
       refine .seq <| .seq <| .rs fun k19 => .mv rfl <| .fp t35 t33 rfl <| .ld t33 rfl (.ptr _ _ _ _ _ rfl) rfl <| .mv rfl <| .g (fun _ τ => ⟨_, .indexAddr (.no rfl) rfl (i) t33 rfl t31 rfl rfl rfl (.d _ _) rfl rfl rfl (map_get (by omega)) rfl rfl τ⟩) <| .ld t31 rfl (.d _) rfl ?_
       refine .g (fun _ τ => ⟨_, .len (.no rfl) rfl (z := ((s.arrs.getD i default).length : Int)) t31 rfl rfl rfl (.d _ _) (map_len _ _) rfl τ⟩) <| .bi rfl <| .z ?_
       refine .cond (t := decide ((q : Int) < ((s.arrs.getD i default).length : Int))) rfl (fun c4 => ?_) (fun c4 => ?_)
       ·have c4 := of_decide_eq_true c4
        refine .skip <| .seq <| .block <| .seq ?_
        refine .regD (X := Unit) (by kernel_rfl) (fun ζ => .of [(2, .one (.ptr [2] (k6) 0)), (3, .one (.ptr [3] (k6 + 1) 0)), (6, .one (.d (.v (.int .i64 ((i : Int)))))), (7, .one (.d (.v (.int .i64 ((q : Int)))))), (61, .one (.d (.v (.bool (!(Iv.has (e.arrs.getD i default) ((s.arrs.getD i default).getD (q) default)))))))] [([2], (k6, k6, .box [.d (.v (.bool (e.live))), .d (.sl false 70 2 (List.map Iv.c (e.ints))), .d (.sl false 70 2 (List.map Iv.c (e.arrs)))])), ([3], (k6 + 1, k6 + 1, .box [.d (.sl false 2 1 (List.map i64c (s.ints))), .d (.sl false 4 1 (List.map boolc (s.flags))), .d (.sl false 31 1 (List.map slc31 (s.arrs)))]))]) [⟨[2], some 47, [], []⟩, ⟨[47], some 48, [[2]], []⟩, ⟨[6], some 49, [], []⟩, ⟨[48, 49], some 50, [], []⟩, ⟨[50], some 51, [], []⟩, ⟨[3], some 52, [], []⟩, ⟨[52], some 53, [[3]], []⟩, ⟨[6], some 54, [], []⟩, ⟨[53, 54], some 55, [], []⟩, ⟨[55], some 56, [], []⟩, ⟨[7], some 57, [], []⟩, ⟨[56, 57], some 58, [], []⟩, ⟨[58], some 59, [], []⟩, ⟨[51, 59], some 60, [], []⟩, ⟨[60], some 61, [], []⟩] (by kernel_rfl) (fun k20 => ?_) ?_
        ·skip
         refine .fieldAddrP (.no rfl) rfl t43 rfl rfl t41 rfl rfl rfl rfl <| .load (.no rfl) rfl t41 rfl rfl (.ptr _ _ _ _ _ rfl) rfl rfl rfl rfl <| .move (.no rfl) rfl rfl rfl rfl <| .indexAddr (.no rfl) rfl (i) t41 rfl t70 rfl rfl rfl (.d _ _) rfl rfl rfl (map_get (by omega)) rfl rfl <| .load (.no rfl) rfl t70 rfl rfl (.d _) rfl rfl rfl rfl <| .fieldAddrP (.no rfl) rfl t35 rfl rfl t33 rfl rfl rfl rfl <| .load (.no rfl) rfl t33 rfl rfl (.ptr _ _ _ _ _ rfl) rfl rfl rfl rfl <| .move (.no rfl) rfl rfl rfl rfl <| .indexAddr (.no rfl) rfl (i) t33 rfl t31 rfl rfl rfl (.d _ _) rfl rfl rfl (map_get (by omega)) rfl rfl ?_
         refine .load (.no rfl) rfl t31 rfl rfl (.d _) rfl rfl rfl rfl <| .move (.no rfl) rfl rfl rfl rfl <| .indexAddr (.no rfl) rfl (q) t31 rfl t2 rfl rfl rfl (.d _ _) rfl rfl rfl (map_get (by omega)) rfl rfl <| .load (.no rfl) rfl t2 rfl rfl (.d _) rfl rfl rfl rfl <| .call (.no rfl) rfl [] [] (c_sIvHas (e.arrs.getD i default) ((s.arrs.getD i default).getD (q) default)) rfl rfl rfl rfl rfl (.dd (.dd (.dd .nil))) rfl rfl (fun h => absurd rfl h) (.own [60, 0] .nil) (.nil) rfl rfl rfl (by simp) rfl rfl rfl <| .un (.no rfl) rfl rfl rfl rfl rfl ?_
         exact .fin () (.of (.r rfl) (.r rfl))
        intro _
        refine .cond (t := !(Iv.has (e.arrs.getD i default) ((s.arrs.getD i default).getD (q) default))) rfl (fun c5 => ?_) (fun c5 => ?_)
        ·have c5 := (nT id) c5
         refine .seq <| .rs fun k21 => .as rfl <| .z <| .ret ?_
         exact fin0 (.inr rfl) (.one (svB (show (false) = (Env.has e s) by (rw [Env.has_arr (j := i) (by omega) (all_none (j := q) (by omega) c5)]))) .nil) (.dd .nil) rfl
        ·have c5 := (nF id) c5
         refine .skip <| .rs fun k23 => .mv rfl <| .bi rfl <| .as rfl <| .z ?_
         exact .here (q + 1) (.of (.cons rfl (.cons rfl (.cons rfl (.cons (svI (show (IntKind.wrap .i64 ((q : Int) + 1)) = (((q + 1) : Int)) by first | rfl | omega | exact wrap_le (by omega) (by omega) | (rw [wrap_le (by omega) (by omega)]; omega))) .nil)))) (.r rfl)) ⟨(show (q + 1) ≤ (s.arrs.getD i default).length ∧ allTo (q + 1) (fun x => Iv.has (e.arrs.getD i default) ((s.arrs.getD i default).getD x default)) = true by exact ⟨by omega, allTo_step hI.2 c5⟩), (show (s.arrs.getD i default).length - (q + 1) < (s.arrs.getD i default).length - q by omega)⟩
       ·have c4 := of_decide_eq_false c4
        refine .exit <| .rs fun k24 => .mv rfl <| .bi rfl <| .as rfl <| .z ?_
        exact .here (i + 1) (.of (.cons rfl (.cons rfl (.cons (svI (show (IntKind.wrap .i64 ((i : Int) + 1)) = (((i + 1) : Int)) by first | rfl | omega | exact wrap_le (by omega) (by omega) | (rw [wrap_le (by omega) (by omega)]; omega))) .nil))) (.r rfl)) ⟨(show (i + 1) ≤ e.arrs.length ∧ allTo (i + 1) (fun x => (s.arrs.getD x default).all (Iv.has (e.arrs.getD x default))) = true by exact ⟨by omega, allTo_step hI1.2 (all_done (j := q) (by omega) hI.2)⟩), (show e.arrs.length - (i + 1) < e.arrs.length - i by omega)⟩
     ·have c3 := of_decide_eq_false c3
      refine .exit <| .seq <| .rs fun k25 => .as rfl <| .z <| .ret ?_
      exact fin0 (.inr rfl) (.one (svB (show (true) = (Env.has e s) by (rw [Env.has_done c0 (i := j) (by omega) hI0.2 (j := i) (by omega) hI.2]))) .nil) (.dd .nil) rfl
end Go.Proofs

namespace Go.Proofs
open Go Go.Proofs Go.Ev

def i71 : TI := ⟨.int .u64, 1, 8, [.int .u64 0]⟩
theorem t71 : TyOk Tryz.prog 71 i71 := ⟨Tryz.underlying71, by kernel_rfl⟩
theorem z71 : ZOk Tryz.prog 71 i71 := ⟨t71, rfl⟩
theorem c_l5One (b : Bool) : Trip Tryz.prog 55 [(false, 1)] ([.v (.bool (b))]) [(false, 1)] [.v (.int .i64 (truthN b))] [] := by
 refine Trip.of Tryz.func55 (by decide) (c := _) rfl rfl (Nat.le_of_ble_eq_true rfl) rfl (AftOk.nil _) <| .seq <| .rs fun k1 => .as rfl <| .z <| .seq <| .seq <| .rs fun k2 => .mv rfl ?_
 refine .z ?_
 refine .cond (t := b) rfl (fun c0 => ?_) (fun c0 => ?_)
 ·have c0 := c0
  refine .seq <| .rs fun k3 => .as rfl <| .z <| .ret ?_
  exact fin0 (.inr rfl) (.one (svI (show (1) = (truthN b) by (rw [c0]; rfl))) .nil) (.dd .nil) rfl
 ·have c0 := c0
  refine .skip <| .seq <| .rs fun k5 => .as rfl <| .z <| .ret ?_
  exact fin0 (.inr rfl) (.one (svI (show (0) = (truthN b) by (rw [c0]; rfl))) .nil) (.dd .nil) rfl
theorem c_truth (b : Bool) : Trip Tryz.prog 51 [(false, 1)] ([.v (.bool (b))]) [(false, 1)] [.v (.int .i64 (truthN b))] [] := by
 refine Trip.of Tryz.func51 (by decide) (c := _) rfl rfl (Nat.le_of_ble_eq_true rfl) rfl (AftOk.nil _) <| .seq <| .rs fun k1 => .as rfl <| .z <| .seq <| .seq <| .rs fun k2 => .mv rfl ?_
 refine .z ?_
 refine .cond (t := b) rfl (fun c0 => ?_) (fun c0 => ?_)
 ·have c0 := c0
  refine .seq <| .rs fun k3 => .as rfl <| .z <| .ret ?_
  exact fin0 (.inr rfl) (.one (svI (show (1) = (truthN b) by (rw [c0]; rfl))) .nil) (.dd .nil) rfl
 ·have c0 := c0
  refine .skip <| .seq <| .rs fun k5 => .as rfl <| .z <| .ret ?_
  exact fin0 (.inr rfl) (.one (svI (show (0) = (truthN b) by (rw [c0]; rfl))) .nil) (.dd .nil) rfl
theorem c_l8Leaf (s : Store) (hl : s.flags.length ≤ 3) : Trip Tryz.prog 30 [(true, 3)] (Store.c35 s) [(false, 1)] [.v (.int .i64 (leafN s.flags))] [] := by
 refine Trip.of Tryz.func30 (by decide) (c := _) rfl rfl (Nat.le_of_ble_eq_true rfl) rfl (AftOk.nil _) <| .sla (t := 0) 0 rfl rfl fun hs1l => .sla (t := 0) 1 rfl rfl fun hs2l => .sla (t := 0) 2 rfl rfl fun hs3l => .seq <| .rs fun k4 => .g (fun _ τ => ⟨_, .box (.no rfl) rfl rfl rfl rfl rfl τ⟩) <| .as rfl <| .z ?_
 refine .seq <| .rs fun k5 => .as rfl <| .z <| .seq <| .seq <| .rs fun k6 => .as rfl <| .z ?_
 refine .block ?_
 refine .loop (X := Nat) (fun ζ => .of [(1, .one (.ptr [1] (k4) 0)), (3, .one (.d (.v (.int .i64 (leafTo s.flags ζ))))), (4, .one (.d (.v (.int .i64 ((ζ : Int))))))] [([1], (k4, k4, .box [.d (.sl false 2 1 (List.map i64c (s.ints))), .d (.sl false 4 1 (List.map boolc (s.flags))), .d (.sl false 31 1 (List.map slc31 (s.arrs)))]))]) (fun ζ => ζ ≤ s.flags.length) (fun ζ => s.flags.length - ζ) ?_ ?_
 ·skip
  exact .here 0 (.of (.cons rfl (.cons (svI (show (0) = (leafTo s.flags 0) by first | rfl | omega | exact leaf_add (by omega) | exact leaf_or (by omega) | exact wrap_le (by omega) (by omega) | (rw [wrap_le (by omega) (by omega)]; omega))) (.cons (svI (show (0) = ((0 : Int)) by first | rfl | omega | exact leaf_add (by omega) | exact leaf_or (by omega) | exact wrap_le (by omega) (by omega) | (rw [wrap_le (by omega) (by omega)]; omega))) .nil))) (.r rfl)) (show 0 ≤ s.flags.length by omega)
 ·rintro j hI
  have hI : j ≤ s.flags.length := hI
  refine .seq <| .seq <| .rs fun k7 => .mv rfl <| .fp t35 t32 rfl <| .ld t32 rfl (.ptr _ _ _ _ _ rfl) rfl <| .g (fun _ τ => ⟨_, .len (.no rfl) rfl (z := (s.flags.length : Int)) t32 rfl rfl rfl (.d _ _) (map_len _ _) rfl τ⟩) <| .bi rfl <| .z ?_
  refine .cond (t := decide ((j : Int) < (s.flags.length : Int))) rfl (fun c0 => ?_) (fun c0 => ?_)
  ·have c0 := of_decide_eq_true c0
   refine .skip <| .seq <| .block <| .rs fun k8 => .mv rfl <| .fp t35 t32 rfl <| .ld t32 rfl (.ptr _ _ _ _ _ rfl) rfl <| .mv rfl <| .g (fun _ τ => ⟨_, .indexAddr (.no rfl) rfl (j) t32 rfl t4 rfl rfl rfl (.d _ _) rfl rfl rfl (map_get (by omega)) rfl rfl τ⟩) ?_
   refine .ld t4 rfl (.d _) rfl <| .c0 (c_l5One (s.flags.getD j default)) rfl (.dd .nil) (.own [18, 0] .nil) rfl <| .mv rfl <| .g (fun _ τ => ⟨_, .conv (.no rfl) rfl (z' := (j : Int)) t3 t71 rfl rfl rfl rfl (wrap_u64 (by omega) (by omega)) rfl τ⟩) <| .g (fun _ τ => ⟨_, .shl (.no rfl) rfl rfl rfl rfl (by omega) rfl rfl τ⟩) <| .bi rfl <| .as rfl <| .z <| .rs fun k9 => ?_
   refine .mv rfl <| .bi rfl <| .as rfl <| .z ?_
   exact .here (j + 1) (.of (.cons rfl (.cons (svI (show (IntKind.wrap .i64 ((leafTo s.flags j) + (IntKind.wrap .i64 ((truthN (s.flags.getD j default)) * 2 ^ (min ((j : Int)).toNat (IntKind.bits .i64)))))) = (leafTo s.flags (j + 1)) by first | rfl | omega | exact leaf_add (by omega) | exact leaf_or (by omega) | exact wrap_le (by omega) (by omega) | (rw [wrap_le (by omega) (by omega)]; omega))) (.cons (svI (show (IntKind.wrap .i64 ((j : Int) + 1)) = (((j + 1) : Int)) by first | rfl | omega | exact leaf_add (by omega) | exact leaf_or (by omega) | exact wrap_le (by omega) (by omega) | (rw [wrap_le (by omega) (by omega)]; omega))) .nil))) (.r rfl)) ⟨(show (j + 1) ≤ s.flags.length by omega), (show s.flags.length - (j + 1) < s.flags.length - j by omega)⟩
  ·have c0 := of_decide_eq_false c0
   refine .exit <| .seq <| .rs fun k10 => .mv rfl <| .as rfl <| .z <| .ret ?_
   exact fin0 (.inr rfl) (.one (svI (show (leafTo s.flags j) = (leafN s.flags) by exact leafN_len (by omega) hI)) .nil) (.dd .nil) rfl
theorem c_leafOf (l : List Bool) (hl : l.length ≤ 3) : Trip Tryz.prog 26 [(false, 1)] ([.sl false 4 1 (List.map boolc (l))]) [(false, 1)] [.v (.int .i64 (leafN l))] [] := by
 refine Trip.of Tryz.func26 (by decide) (c := _) rfl rfl (Nat.le_of_ble_eq_true rfl) rfl (AftOk.nil _) <| .sl (t := 0) rfl fun hs1l => .seq <| .rs fun k2 => .as rfl <| .z <| .seq <| .rs fun k3 => .as rfl ?_
 refine .z <| .seq <| .seq <| .rs fun k4 => .mv rfl <| .g (fun _ τ => ⟨_, .len (.no rfl) rfl (z := (l.length : Int)) t32 rfl rfl rfl (.d _ _) (map_len _ _) rfl τ⟩) <| .mv rfl <| .z <| .block ?_
 refine .loop (X := Nat) (fun ζ => .of [(3, .one (.d (.v (.int .i64 (leafTo l ζ))))), (6, .one (.d (.sl false 4 1 (List.map boolc (l))))), (7, .one (.d (.v (.int .i64 ((l.length : Int)))))), (8, .one (.d (.v (.int .i64 ((ζ : Int))))))] []) (fun ζ => ζ ≤ l.length) (fun ζ => l.length - ζ) ?_ ?_
 ·skip
  exact .here 0 (.of (.cons (svI (show (0) = (leafTo l 0) by first | rfl | omega | exact leaf_add (by omega) | exact leaf_or (by omega) | exact wrap_le (by omega) (by omega) | (rw [wrap_le (by omega) (by omega)]; omega))) (.cons rfl (.cons rfl (.cons (svI (show (0) = ((0 : Int)) by first | rfl | omega | exact leaf_add (by omega) | exact leaf_or (by omega) | exact wrap_le (by omega) (by omega) | (rw [wrap_le (by omega) (by omega)]; omega))) .nil)))) .nil) (show 0 ≤ l.length by omega)
 ·rintro j hI
  have hI : j ≤ l.length := hI
  refine .seq <| .rs fun k5 => .bi rfl <| .z <| .seq ?_
  refine .cond (t := decide ((j : Int) < (l.length : Int))) rfl (fun c0 => ?_) (fun c0 => ?_)
  ·have c0 := of_decide_eq_true c0
   refine .skip <| .seq <| .block <| .seq <| .rs fun k6 => .mv rfl <| .g (fun _ τ => ⟨_, .indexAddr (.no rfl) rfl (j) t32 rfl t4 rfl rfl rfl (.d _ _) rfl rfl rfl (map_get (by omega)) rfl rfl τ⟩) <| .ld t4 rfl (.d _) rfl <| .as rfl ?_
   refine .as rfl <| .z <| .rs fun k7 => .mv rfl <| .mv rfl <| .c0 (c_truth (l.getD j default)) rfl (.dd .nil) (.own [15, 0] .nil) rfl <| .mv rfl <| .g (fun _ τ => ⟨_, .shl (.no rfl) rfl rfl rfl rfl (by omega) rfl rfl τ⟩) <| .bi rfl ?_
   refine .as rfl <| .z <| .rs fun k8 => .bi rfl <| .mv rfl <| .z ?_
   exact .here (j + 1) (.of (.cons (svI (show (IntKind.wrap .i64 ((BitVec.ofInt (IntKind.bits .i64) (leafTo l j) ||| BitVec.ofInt (IntKind.bits .i64) (IntKind.wrap .i64 ((truthN (l.getD j default)) * 2 ^ (min ((j : Int)).toNat (IntKind.bits .i64))))).toNat : Int)) = (leafTo l (j + 1)) by first | rfl | omega | exact leaf_add (by omega) | exact leaf_or (by omega) | exact wrap_le (by omega) (by omega) | (rw [wrap_le (by omega) (by omega)]; omega))) (.cons rfl (.cons rfl (.cons (svI (show (IntKind.wrap .i64 ((j : Int) + 1)) = (((j + 1) : Int)) by first | rfl | omega | exact leaf_add (by omega) | exact leaf_or (by omega) | exact wrap_le (by omega) (by omega) | (rw [wrap_le (by omega) (by omega)]; omega))) .nil)))) .nil) ⟨(show (j + 1) ≤ l.length by omega), (show l.length - (j + 1) < l.length - j by omega)⟩
  ·have c0 := of_decide_eq_false c0
   refine .exit <| .seq <| .rs fun k9 => .mv rfl <| .as rfl <| .z <| .ret ?_
   exact fin0 (.inr rfl) (.one (svI (show (leafTo l j) = (leafN l) by exact leafN_len (by omega) hI)) .nil) (.dd .nil) rfl
end Go.Proofs

namespace Go.Proofs
open Go Go.Proofs Go.Ev

theorem c_l6Leq (a : Env) (b : Env) (hj : a.live = true → b.live = true → a.ints.length = b.ints.length ∧ a.arrs.length = b.arrs.length) (hb : a.ints.length ≤ 1048576 ∧ a.arrs.length ≤ 1048576 ∧ b.ints.length ≤ 1048576 ∧ b.arrs.length ≤ 1048576) : Trip Tryz.prog 74 [(true, 3), (true, 3)] (Env.c43 a ++ Env.c43 b) [(false, 1)] [.v (.bool (Env.leq a b))] [] := by
 refine Trip.of Tryz.func74 (by decide) (c := _) rfl rfl (Nat.le_of_ble_eq_true rfl) rfl (AftOk.nil _) <| .sla (t := 0) 1 rfl rfl fun hs1l => .sla (t := 0) 2 rfl rfl fun hs2l => .sla (t := 1) 1 rfl rfl fun hs3l => .sla (t := 1) 2 rfl rfl fun hs4l => .seq <| .rs fun k5 => .g (fun _ τ => ⟨_, .box (.no rfl) rfl rfl rfl rfl rfl τ⟩) <| .g (fun _ τ => ⟨_, .box (.no rfl) rfl rfl rfl rfl rfl τ⟩) ?_
 refine .as rfl <| .z <| .seq <| .seq ?_
 refine .reg (X := Unit) (fun ζ => .of [(2, .one (.ptr [2] (k5) 0)), (3, .one (.ptr [3] (k5 + 1) 0)), (15, .one (.d (.v (.bool ((!a.live || !b.live))))))] [([2], (k5, k5, .box [.d (.v (.bool (a.live))), .d (.sl false 70 2 (List.map Iv.c (a.ints))), .d (.sl false 70 2 (List.map Iv.c (a.arrs)))])), ([3], (k5 + 1, k5 + 1, .box [.d (.v (.bool (b.live))), .d (.sl false 70 2 (List.map Iv.c (b.ints))), .d (.sl false 70 2 (List.map Iv.c (b.arrs)))]))]) [⟨[2], some 8, [], []⟩, ⟨[8], some 9, [[2]], []⟩, ⟨[9], some 10, [], []⟩, ⟨[10], some 11, [], []⟩, ⟨[11, 3], some 12, [], []⟩, ⟨[11, 12], some 13, [[3]], []⟩, ⟨[11, 13], some 14, [], []⟩, ⟨[11, 14], some 15, [], []⟩] (fun k6 => ?_) ?_
 ·skip
  refine .fieldAddrP (.no rfl) rfl t43 rfl rfl t4 rfl rfl rfl rfl <| .load (.no rfl) rfl t4 rfl rfl (.ptr _ _ _ _ _ rfl) rfl rfl rfl rfl <| .un (.no rfl) rfl rfl rfl rfl rfl <| .moveB (.no rfl) rfl rfl rfl rfl fun b7 g1_3 => ?_
  cases b7
  ·skip
   refine .fieldAddrP (.on rfl rfl rfl rfl rfl) rfl t43 rfl rfl t4 rfl rfl rfl rfl <| .load (.on rfl rfl rfl rfl rfl) rfl t4 rfl rfl (.ptr _ _ _ _ _ rfl) rfl rfl rfl rfl <| .un (.on rfl rfl rfl rfl rfl) rfl rfl rfl rfl rfl <| .pick (.no rfl) rfl rfl rfl rfl rfl ?_
   exact .fin () (.of (.cons rfl (.cons rfl (.cons (svB (show (!b.live) = ((!a.live || !b.live)) by first | (simp only [g1_3, Bool.true_or, Bool.false_or, Bool.true_and, Bool.false_and, Bool.not_true, Bool.not_false]; done) | simp [g1_3])) .nil))) (.r rfl))
  ·skip
   refine .off rfl rfl rfl rfl rfl rfl rfl <| .off rfl rfl rfl rfl rfl rfl rfl <| .off rfl rfl rfl rfl rfl rfl rfl <| .pick (.no rfl) rfl rfl rfl rfl rfl ?_
   exact .fin () (.of (.cons rfl (.cons rfl (.cons (svB (show (true) = ((!a.live || !b.live)) by first | (simp only [g1_3, Bool.true_or, Bool.false_or, Bool.true_and, Bool.false_and, Bool.not_true, Bool.not_false]; done) | simp [g1_3])) .nil))) (.r rfl))
 intro _
 refine .cond (t := (!a.live || !b.live)) rfl (fun c0 => ?_) (fun c0 => ?_)
 ·have c0 := (oT (nT id) (nT id)) c0
  refine .seq <| .rs fun k8 => .fp t43 t4 rfl <| .ld t4 rfl (.ptr _ _ _ _ _ rfl) rfl <| .un rfl <| .as rfl <| .z <| .ret ?_
  exact fin0 (.inr rfl) (.one (svB (show (!a.live) = (Env.leq a b) by (unfold Env.leq; cases h1 : a.live <;> cases h2 : b.live <;> simp_all))) .nil) (.dd .nil) rfl
 ·have c0 := (oF (nF id) (nF id)) c0
  refine .skip <| .seq <| .rs fun k10 => .lda t43 rfl (.ptr _ _ _ _ _ rfl) rfl <| .c0 (c_l6List a (by omega)) rfl (.dd (.dd (.dd .nil))) (.frz [20, 0] (Frz.of_erase (erase_slo _ _ _ _ _ _ Iv.c_e)) .nil) rfl <| .as rfl <| .z <| .seq <| .rs fun k11 => ?_
  refine .lda t43 rfl (.ptr _ _ _ _ _ rfl) rfl <| .c0 (c_l6List b (by omega)) rfl (.dd (.dd (.dd .nil))) (.frz [22, 0] (Frz.of_erase (erase_slo _ _ _ _ _ _ Iv.c_e)) .nil) rfl <| .as rfl <| .z <| .seq <| .seq <| .rs fun k12 => .as rfl <| .z ?_
  refine .block ?_
  refine .loop (X := Nat) (fun ζ => .of [(5, .one (.d (.sl false 70 2 (List.map Iv.c (a.ints ++ a.arrs))))), (6, .one (.d (.sl false 70 2 (List.map Iv.c (b.ints ++ b.arrs))))), (7, .one (.d (.v (.int .i64 ((ζ : Int))))))] []) (fun ζ => ζ ≤ (a.ints ++ a.arrs).length ∧ allTo ζ (fun i => Iv.leq ((a.ints ++ a.arrs).getD i default) ((b.ints ++ b.arrs).getD i default)) = true) (fun ζ => (a.ints ++ a.arrs).length - ζ) ?_ ?_
  ·skip
   exact .here 0 (.of (.cons rfl (.cons rfl (.cons (svI (show (0) = ((0 : Int)) by first | rfl | omega | exact wrap_le (by omega) (by omega) | (rw [wrap_le (by omega) (by omega)]; omega))) .nil))) .nil) (show 0 ≤ (a.ints ++ a.arrs).length ∧ allTo 0 (fun i => Iv.leq ((a.ints ++ a.arrs).getD i default) ((b.ints ++ b.arrs).getD i default)) = true by exact ⟨by omega, rfl⟩)
  ·rintro j hI
   have hI : j ≤ (a.ints ++ a.arrs).length ∧ allTo j (fun i => Iv.leq ((a.ints ++ a.arrs).getD i default) ((b.ints ++ b.arrs).getD i default)) = true := hI
   have hn9 : (a.ints ++ a.arrs).length ≤ 3145728 := by simp; omega
   have hn8 : (a.ints ++ a.arrs).length = (b.ints ++ b.arrs).length := by have := hj c0.1 c0.2; simp; omega
   refine .seq <| .seq <| .rs fun k13 => .mv rfl <| .mv rfl <| .g (fun _ τ => ⟨_, .len (.no rfl) rfl (z := ((a.ints ++ a.arrs).length : Int)) t41 rfl rfl rfl (.d _ _) (map_len _ _) rfl τ⟩) <| .bi rfl <| .z ?_
   refine .cond (t := decide ((j : Int) < ((a.ints ++ a.arrs).length : Int))) rfl (fun c1 => ?_) (fun c1 => ?_)
   ·have c1 := of_decide_eq_true c1
    refine .skip <| .seq <| .block <| .seq ?_
    refine .regD (X := Unit) (by kernel_rfl) (fun ζ => .of [(5, .one (.d (.sl false 70 2 (List.map Iv.c (a.ints ++ a.arrs))))), (6, .one (.d (.sl false 70 2 (List.map Iv.c (b.ints ++ b.arrs))))), (7, .one (.d (.v (.int .i64 ((j : Int)))))), (38, .one (.d (.v (.bool (!(Iv.leq ((a.ints ++ a.arrs).getD (j) default) ((b.ints ++ b.arrs).getD (j) default)))))))] []) [⟨[5], some 29, [], []⟩, ⟨[7], some 30, [], []⟩, ⟨[29, 30], some 31, [], []⟩, ⟨[31], some 32, [], []⟩, ⟨[6], some 33, [], []⟩, ⟨[7], some 34, [], []⟩, ⟨[33, 34], some 35, [], []⟩, ⟨[35], some 36, [], []⟩, ⟨[32, 36], some 37, [], []⟩, ⟨[37], some 38, [], []⟩] (by kernel_rfl) (fun k14 => ?_) ?_
    ·skip
     refine .move (.no rfl) rfl rfl rfl rfl <| .move (.no rfl) rfl rfl rfl rfl <| .indexAddr (.no rfl) rfl (j) t41 rfl t70 rfl rfl rfl (.d _ _) rfl rfl rfl (map_get (by omega)) rfl rfl <| .load (.no rfl) rfl t70 rfl rfl (.d _) rfl rfl rfl rfl <| .move (.no rfl) rfl rfl rfl rfl <| .move (.no rfl) rfl rfl rfl rfl <| .indexAddr (.no rfl) rfl (j) t41 rfl t70 rfl rfl rfl (.d _ _) rfl rfl rfl (map_get (by omega)) rfl rfl <| .load (.no rfl) rfl t70 rfl rfl (.d _) rfl rfl rfl rfl <| .call (.no rfl) rfl [] [] (c_sIvLeq ((a.ints ++ a.arrs).getD (j) default) ((b.ints ++ b.arrs).getD (j) default)) rfl rfl rfl rfl rfl (.dd (.dd (.dd (.dd .nil)))) rfl rfl (fun h => absurd rfl h) (.own [37, 0] .nil) (.nil) rfl rfl rfl (by simp) rfl rfl rfl ?_
     refine .un (.no rfl) rfl rfl rfl rfl rfl ?_
     exact .fin () (.of (.r rfl) .nil)
    intro _
    refine .cond (t := !(Iv.leq ((a.ints ++ a.arrs).getD (j) default) ((b.ints ++ b.arrs).getD (j) default))) rfl (fun c2 => ?_) (fun c2 => ?_)
    ·have c2 := (nT id) c2
     refine .seq <| .rs fun k15 => .as rfl <| .z <| .ret ?_
     exact fin0 (.inr rfl) (.one (svB (show (false) = (Env.leq a b) by (rw [Env.leq_app c0.1 c0.2 (hj c0.1 c0.2).1, allTo_fail (j := j) (by omega) c2]))) .nil) (.dd .nil) rfl
    ·have c2 := (nF id) c2
     refine .skip <| .rs fun k17 => .mv rfl <| .bi rfl <| .as rfl <| .z ?_
     exact .here (j + 1) (.of (.cons rfl (.cons rfl (.cons (svI (show (IntKind.wrap .i64 ((j : Int) + 1)) = (((j + 1) : Int)) by first | rfl | omega | exact wrap_le (by omega) (by omega) | (rw [wrap_le (by omega) (by omega)]; omega))) .nil))) .nil) ⟨(show (j + 1) ≤ (a.ints ++ a.arrs).length ∧ allTo (j + 1) (fun i => Iv.leq ((a.ints ++ a.arrs).getD i default) ((b.ints ++ b.arrs).getD i default)) = true by exact ⟨by omega, allTo_step hI.2 c2⟩), (show (a.ints ++ a.arrs).length - (j + 1) < (a.ints ++ a.arrs).length - j by omega)⟩
   ·have c1 := of_decide_eq_false c1
    refine .exit <| .seq <| .rs fun k18 => .as rfl <| .z <| .ret ?_
    exact fin0 (.inr rfl) (.one (svB (show (true) = (Env.leq a b) by (rw [Env.leq_app c0.1 c0.2 (hj c0.1 c0.2).1]; exact (allTo_le (by omega) hI.2).symm))) .nil) (.dd .nil) rfl
theorem c_leq (e : Env) (b : Env) (hj : e.live = true → b.live = true → e.ints.length = b.ints.length ∧ e.arrs.length = b.arrs.length) : Trip Tryz.prog 73 [(true, 3), (true, 3)] (Env.c43 e ++ Env.c43 b) [(false, 1)] [.v (.bool (Env.leq e b))] [] := by
 refine Trip.of Tryz.func73 (by decide) (c := _) rfl rfl (Nat.le_of_ble_eq_true rfl) rfl (AftOk.nil _) <| .sla (t := 0) 1 rfl rfl fun hs1l => .sla (t := 0) 2 rfl rfl fun hs2l => .sla (t := 1) 1 rfl rfl fun hs3l => .sla (t := 1) 2 rfl rfl fun hs4l => .seq <| .rs fun k5 => .g (fun _ τ => ⟨_, .box (.no rfl) rfl rfl rfl rfl rfl τ⟩) <| .g (fun _ τ => ⟨_, .box (.no rfl) rfl rfl rfl rfl rfl τ⟩) ?_
 refine .as rfl <| .z <| .seq <| .block <| .seq <| .rs fun k6 => .fp t43 t4 rfl <| .ld t4 rfl (.ptr _ _ _ _ _ rfl) rfl <| .un rfl ?_
 refine .as rfl <| .z ?_
 refine .cond (t := !e.live) rfl (fun c0 => ?_) (fun c0 => ?_)
 ·have c0 := (nT id) c0
  refine .seq <| .rs fun k7 => .as rfl <| .z <| .ret ?_
  exact fin0 (.inr rfl) (.one (svB (show (true) = (Env.leq e b) by simp [Env.leq, c0])) .nil) (.dd .nil) rfl
 ·have c0 := (nF id) c0
  refine .seq <| .rs fun k9 => .fp t43 t4 rfl <| .ld t4 rfl (.ptr _ _ _ _ _ rfl) rfl <| .un rfl <| .as rfl <| .z ?_
  refine .cond (t := !b.live) rfl (fun c1 => ?_) (fun c1 => ?_)
  ·have c1 := (nT id) c1
   refine .seq <| .rs fun k10 => .as rfl <| .z <| .ret ?_
   exact fin0 (.inr rfl) (.one (svB (show (false) = (Env.leq e b) by simp [Env.leq, c0, c1])) .nil) (.dd .nil) rfl
  ·have c1 := (nF id) c1
   refine .skip <| .seq <| .seq <| .rs fun k12 => .fp t43 t41 rfl <| .ld t41 rfl (.ptr _ _ _ _ _ rfl) rfl <| .g (fun _ τ => ⟨_, .len (.no rfl) rfl (z := (e.ints.length : Int)) t41 rfl rfl rfl (.d _ _) (map_len _ _) rfl τ⟩) <| .mv rfl <| .z ?_
   refine .block ?_
   refine .loop (X := Nat) (fun ζ => .of [(2, .one (.ptr [2] (k5) 0)), (3, .one (.ptr [3] (k5 + 1) 0)), (18, .one (.d (.sl false 70 2 (List.map Iv.c (e.ints))))), (19, .one (.d (.v (.int .i64 ((e.ints.length : Int)))))), (20, .one (.d (.v (.int .i64 ((ζ : Int))))))] [([2], (k5, k5, .box [.d (.v (.bool (e.live))), .d (.sl false 70 2 (List.map Iv.c (e.ints))), .d (.sl false 70 2 (List.map Iv.c (e.arrs)))])), ([3], (k5 + 1, k5 + 1, .box [.d (.v (.bool (b.live))), .d (.sl false 70 2 (List.map Iv.c (b.ints))), .d (.sl false 70 2 (List.map Iv.c (b.arrs)))]))]) (fun ζ => ζ ≤ e.ints.length ∧ allTo ζ (fun x => Iv.leq (e.ints.getD x default) (b.ints.getD x default)) = true) (fun ζ => e.ints.length - ζ) ?_ ?_
   ·skip
    exact .here 0 (.of (.cons rfl (.cons rfl (.cons rfl (.cons rfl (.cons (svI (show (0) = ((0 : Int)) by first | rfl | omega | exact wrap_le (by omega) (by omega) | (rw [wrap_le (by omega) (by omega)]; omega))) .nil))))) (.r rfl)) (show 0 ≤ e.ints.length ∧ allTo 0 (fun x => Iv.leq (e.ints.getD x default) (b.ints.getD x default)) = true by exact ⟨by omega, rfl⟩)
   ·rintro j hI
    have hI : j ≤ e.ints.length ∧ allTo j (fun x => Iv.leq (e.ints.getD x default) (b.ints.getD x default)) = true := hI
    have hj9 := hj c0 c1
    refine .seq <| .rs fun k13 => .bi rfl <| .z <| .seq ?_
    refine .cond (t := decide ((j : Int) < (e.ints.length : Int))) rfl (fun c2 => ?_) (fun c2 => ?_)
    ·have c2 := of_decide_eq_true c2
     refine .skip <| .seq <| .block <| .seq <| .rs fun k14 => .mv rfl <| .g (fun _ τ => ⟨_, .indexAddr (.no rfl) rfl (j) t41 rfl t70 rfl rfl rfl (.d _ _) rfl rfl rfl (map_get (by omega)) rfl rfl τ⟩) <| .lda t70 rfl (.d _) rfl <| .g (fun _ τ => ⟨_, .alloc (.no rfl) rfl z70 rfl rfl rfl τ⟩) ?_
     refine .as rfl <| .g (fun _ τ => ⟨_, .store (.no rfl) rfl t70 rfl rfl rfl rfl rfl rfl rfl rfl rfl τ⟩) <| .z <| .seq ?_
     refine .regD (X := Unit) (by kernel_rfl) (fun ζ => .of [(2, .one (.ptr [2] (k5) 0)), (3, .one (.ptr [3] (k5 + 1) 0)), (18, .one (.d (.sl false 70 2 (List.map Iv.c (e.ints))))), (19, .one (.d (.v (.int .i64 ((e.ints.length : Int)))))), (20, .one (.d (.v (.int .i64 ((j : Int)))))), (32, .one (.d (.v (.bool (!(Iv.leq (e.ints.getD j default) (b.ints.getD j default)))))))] [([2], (k5, k5, .box [.d (.v (.bool (e.live))), .d (.sl false 70 2 (List.map Iv.c (e.ints))), .d (.sl false 70 2 (List.map Iv.c (e.arrs)))])), ([3], (k5 + 1, k5 + 1, .box [.d (.v (.bool (b.live))), .d (.sl false 70 2 (List.map Iv.c (b.ints))), .d (.sl false 70 2 (List.map Iv.c (b.arrs)))]))]) [⟨[6], some 25, [[6]], []⟩, ⟨[3], some 26, [], []⟩, ⟨[26], some 27, [[3]], []⟩, ⟨[5], some 28, [], []⟩, ⟨[27, 28], some 29, [], []⟩, ⟨[29], some 30, [], []⟩, ⟨[25, 30], some 31, [], []⟩, ⟨[31], some 32, [], []⟩] (by kernel_rfl) (fun k15 => ?_) ?_
     ·skip
      refine .load (.no rfl) rfl t70 rfl rfl (.ptr _ _ _ _ _ rfl) rfl rfl rfl rfl <| .fieldAddrP (.no rfl) rfl t43 rfl rfl t41 rfl rfl rfl rfl <| .load (.no rfl) rfl t41 rfl rfl (.ptr _ _ _ _ _ rfl) rfl rfl rfl rfl <| .move (.no rfl) rfl rfl rfl rfl <| .indexAddr (.no rfl) rfl (j) t41 rfl t70 rfl rfl rfl (.d _ _) rfl rfl rfl (map_get (by omega)) rfl rfl <| .load (.no rfl) rfl t70 rfl rfl (.d _) rfl rfl rfl rfl <| .call (.no rfl) rfl [] [] (c_IvLeq (e.ints.getD j default) (b.ints.getD j default)) rfl rfl rfl rfl rfl (.dd (.dd (.dd (.dd .nil)))) rfl rfl (fun h => absurd rfl h) (.own [31, 0] .nil) (.nil) rfl rfl rfl (by simp) rfl rfl rfl <| .un (.no rfl) rfl rfl rfl rfl rfl ?_
      exact .fin () (.of (.r rfl) (.r rfl))
     intro _
     refine .cond (t := !(Iv.leq (e.ints.getD j default) (b.ints.getD j default))) rfl (fun c3 => ?_) (fun c3 => ?_)
     ·have c3 := (nT id) c3
      refine .seq <| .rs fun k16 => .as rfl <| .z <| .ret ?_
      exact fin0 (.inr rfl) (.one (svB (show (false) = (Env.leq e b) by (unfold Env.leq; rw [if_pos c0, if_pos c1, allTo_fail (j := j) (by omega) c3]; rfl))) .nil) (.dd .nil) rfl
     ·have c3 := (nF id) c3
      refine .skip <| .rs fun k18 => .bi rfl <| .mv rfl <| .z ?_
      exact .here (j + 1) (.of (.cons rfl (.cons rfl (.cons rfl (.cons rfl (.cons (svI (show (IntKind.wrap .i64 ((j : Int) + 1)) = (((j + 1) : Int)) by first | rfl | omega | exact wrap_le (by omega) (by omega) | (rw [wrap_le (by omega) (by omega)]; omega))) .nil))))) (.r rfl)) ⟨(show (j + 1) ≤ e.ints.length ∧ allTo (j + 1) (fun x => Iv.leq (e.ints.getD x default) (b.ints.getD x default)) = true by exact ⟨by omega, allTo_step hI.2 c3⟩), (show e.ints.length - (j + 1) < e.ints.length - j by omega)⟩
    ·have c2 := of_decide_eq_false c2
     refine .exit <| .seq <| .seq <| .rs fun k19 => .fp t43 t41 rfl <| .ld t41 rfl (.ptr _ _ _ _ _ rfl) rfl <| .g (fun _ τ => ⟨_, .len (.no rfl) rfl (z := (e.arrs.length : Int)) t41 rfl rfl rfl (.d _ _) (map_len _ _) rfl τ⟩) <| .mv rfl <| .z ?_
     refine .block ?_
     refine .loop (X := Nat) (fun ζ => .of [(3, .one (.ptr [3] (k5 + 1) 0)), (35, .one (.d (.sl false 70 2 (List.map Iv.c (e.arrs))))), (36, .one (.d (.v (.int .i64 ((e.arrs.length : Int)))))), (37, .one (.d (.v (.int .i64 ((ζ : Int))))))] [([3], (k5 + 1, k5 + 1, .box [.d (.v (.bool (b.live))), .d (.sl false 70 2 (List.map Iv.c (b.ints))), .d (.sl false 70 2 (List.map Iv.c (b.arrs)))]))]) (fun ζ => ζ ≤ e.arrs.length ∧ allTo ζ (fun x => Iv.leq (e.arrs.getD x default) (b.arrs.getD x default)) = true) (fun ζ => e.arrs.length - ζ) ?_ ?_
     ·skip
      exact .here 0 (.of (.cons rfl (.cons rfl (.cons rfl (.cons (svI (show (0) = ((0 : Int)) by first | rfl | omega | exact wrap_le (by omega) (by omega) | (rw [wrap_le (by omega) (by omega)]; omega))) .nil)))) (.r rfl)) (show 0 ≤ e.arrs.length ∧ allTo 0 (fun x => Iv.leq (e.arrs.getD x default) (b.arrs.getD x default)) = true by exact ⟨by omega, rfl⟩)
     ·rintro i hI
      have hI : i ≤ e.arrs.length ∧ allTo i (fun x => Iv.leq (e.arrs.getD x default) (b.arrs.getD x default)) = true := hI
      have hj9 := hj c0 c1
      have hI0 := ‹j ≤ e.ints.length ∧ _›
      refine .seq <| .rs fun k20 => .bi rfl <| .z <| .seq ?_
      refine .cond (t := decide ((i : Int) < (e.arrs.length : Int))) rfl (fun c4 => ?_) (fun c4 => ?_)
      ·have c4 := of_decide_eq_true c4
       refine .skip <| .seq <| .block <| .seq <| .rs fun k21 => .mv rfl <| .g (fun _ τ => ⟨_, .indexAddr (.no rfl) rfl (i) t41 rfl t70 rfl rfl rfl (.d _ _) rfl rfl rfl (map_get (by omega)) rfl rfl τ⟩) <| .lda t70 rfl (.d _) rfl <| .g (fun _ τ => ⟨_, .alloc (.no rfl) rfl z70 rfl rfl rfl τ⟩) ?_
       refine .as rfl <| .g (fun _ τ => ⟨_, .store (.no rfl) rfl t70 rfl rfl rfl rfl rfl rfl rfl rfl rfl τ⟩) <| .z <| .seq ?_
       refine .regD (X := Unit) (by kernel_rfl) (fun ζ => .of [(3, .one (.ptr [3] (k5 + 1) 0)), (35, .one (.d (.sl false 70 2 (List.map Iv.c (e.arrs))))), (36, .one (.d (.v (.int .i64 ((e.arrs.length : Int)))))), (37, .one (.d (.v (.int .i64 ((i : Int)))))), (49, .one (.d (.v (.bool (!(Iv.leq (e.arrs.getD i default) (b.arrs.getD i default)))))))] [([3], (k5 + 1, k5 + 1, .box [.d (.v (.bool (b.live))), .d (.sl false 70 2 (List.map Iv.c (b.ints))), .d (.sl false 70 2 (List.map Iv.c (b.arrs)))]))]) [⟨[8], some 42, [[8]], []⟩, ⟨[3], some 43, [], []⟩, ⟨[43], some 44, [[3]], []⟩, ⟨[7], some 45, [], []⟩, ⟨[44, 45], some 46, [], []⟩, ⟨[46], some 47, [], []⟩, ⟨[42, 47], some 48, [], []⟩, ⟨[48], some 49, [], []⟩] (by kernel_rfl) (fun k22 => ?_) ?_
       ·skip
        refine .load (.no rfl) rfl t70 rfl rfl (.ptr _ _ _ _ _ rfl) rfl rfl rfl rfl <| .fieldAddrP (.no rfl) rfl t43 rfl rfl t41 rfl rfl rfl rfl <| .load (.no rfl) rfl t41 rfl rfl (.ptr _ _ _ _ _ rfl) rfl rfl rfl rfl <| .move (.no rfl) rfl rfl rfl rfl <| .indexAddr (.no rfl) rfl (i) t41 rfl t70 rfl rfl rfl (.d _ _) rfl rfl rfl (map_get (by omega)) rfl rfl <| .load (.no rfl) rfl t70 rfl rfl (.d _) rfl rfl rfl rfl <| .call (.no rfl) rfl [] [] (c_IvLeq (e.arrs.getD i default) (b.arrs.getD i default)) rfl rfl rfl rfl rfl (.dd (.dd (.dd (.dd .nil)))) rfl rfl (fun h => absurd rfl h) (.own [48, 0] .nil) (.nil) rfl rfl rfl (by simp) rfl rfl rfl <| .un (.no rfl) rfl rfl rfl rfl rfl ?_
        exact .fin () (.of (.r rfl) (.r rfl))
       intro _
       refine .cond (t := !(Iv.leq (e.arrs.getD i default) (b.arrs.getD i default))) rfl (fun c5 => ?_) (fun c5 => ?_)
       ·have c5 := (nT id) c5
        refine .seq <| .rs fun k23 => .as rfl <| .z <| .ret ?_
        exact fin0 (.inr rfl) (.one (svB (show (false) = (Env.leq e b) by (unfold Env.leq; rw [if_pos c0, if_pos c1, allTo_fail (j := i) (n := e.arrs.length) (by omega) c5, Bool.and_false]))) .nil) (.dd .nil) rfl
       ·have c5 := (nF id) c5
        refine .skip <| .rs fun k25 => .bi rfl <| .mv rfl <| .z ?_
        exact .here (i + 1) (.of (.cons rfl (.cons rfl (.cons rfl (.cons (svI (show (IntKind.wrap .i64 ((i : Int) + 1)) = (((i + 1) : Int)) by first | rfl | omega | exact wrap_le (by omega) (by omega) | (rw [wrap_le (by omega) (by omega)]; omega))) .nil)))) (.r rfl)) ⟨(show (i + 1) ≤ e.arrs.length ∧ allTo (i + 1) (fun x => Iv.leq (e.arrs.getD x default) (b.arrs.getD x default)) = true by exact ⟨by omega, allTo_step hI.2 c5⟩), (show e.arrs.length - (i + 1) < e.arrs.length - i by omega)⟩
      ·have c4 := of_decide_eq_false c4
       refine .exit <| .seq <| .rs fun k26 => .as rfl <| .z <| .ret ?_
       exact fin0 (.inr rfl) (.one (svB (show (true) = (Env.leq e b) by (unfold Env.leq; rw [if_pos c0, if_pos c1, allTo_le (by omega) hI0.2, allTo_le (by omega) hI.2]; rfl))) .nil) (.dd .nil) rfl
end Go.Proofs

namespace Go.Proofs
open Go Go.Proofs Go.Ev

def i28 : TI := ⟨.sl 43, 1, 24, [.slice none 0 0]⟩
theorem t28 : TyOk Tryz.prog 28 i28 := ⟨Tryz.underlying28, by kernel_rfl⟩
theorem z28 : ZOk Tryz.prog 28 i28 := ⟨t28, rfl⟩
def i101 : TI := ⟨.fn, 1, 8, [.nilFunc]⟩
theorem t101 : TyOk Tryz.prog 101 i101 := ⟨⟨_, _, _, Tryz.underlying101⟩, by kernel_rfl⟩
theorem z101 : ZOk Tryz.prog 101 i101 := ⟨t101, rfl⟩
theorem c_l8Leq (a : List Env) (b : List Env) (hl : a.length = b.length ∧ a.length ≤ 1048576) (hf : ∀ i, i < a.length → (a.getD i default).live = true → (b.getD i default).live = true → (a.getD i default).ints.length = (b.getD i default).ints.length ∧ (a.getD i default).arrs.length = (b.getD i default).arrs.length) (hx : ∀ x ∈ a, x.ints.length ≤ 1048576 ∧ x.arrs.length ≤ 1048576) (hy : ∀ x ∈ b, x.ints.length ≤ 1048576 ∧ x.arrs.length ≤ 1048576) : Trip Tryz.prog 42 [(false, 1), (false, 1)] ([.sl false 43 3 (List.map Env.c43 (a))] ++ [.sl false 43 3 (List.map Env.c43 (b))]) [(false, 1)] [.v (.bool (tabLeq a b))] [] := by
 refine Trip.of Tryz.func42 (by decide) (c := _) rfl rfl (Nat.le_of_ble_eq_true rfl) rfl (AftOk.nil _) <| .sl (t := 0) rfl fun hs1l => .sl (t := 1) rfl fun hs2l => .seq <| .rs fun k3 => .as rfl <| .z <| .seq <| .seq ?_
 refine .rs fun k4 => .as rfl <| .z <| .block ?_
 refine .loop (X := Nat) (fun ζ => .of [(0, .one (.d (.sl false 43 3 (List.map Env.c43 (a))))), (1, .one (.d (.sl false 43 3 (List.map Env.c43 (b))))), (5, .one (.d (.v (.int .i64 ((ζ : Int))))))] []) (fun ζ => ζ ≤ a.length ∧ allTo ζ (fun i => Env.leq (a.getD i default) (b.getD i default)) = true) (fun ζ => a.length - ζ) ?_ ?_
 ·skip
  exact .here 0 (.of (.cons rfl (.cons rfl (.cons (svI (show (0) = ((0 : Int)) by first | rfl | omega | exact wrap_le (by omega) (by omega) | (rw [wrap_le (by omega) (by omega)]; omega))) .nil))) .nil) (show 0 ≤ a.length ∧ allTo 0 (fun i => Env.leq (a.getD i default) (b.getD i default)) = true by exact ⟨by omega, rfl⟩)
 ·rintro j hI
  have hI : j ≤ a.length ∧ allTo j (fun i => Env.leq (a.getD i default) (b.getD i default)) = true := hI
  refine .seq <| .seq <| .rs fun k5 => .mv rfl <| .mv rfl <| .g (fun _ τ => ⟨_, .len (.no rfl) rfl (z := (a.length : Int)) t28 rfl rfl rfl (.d _ _) (map_len _ _) rfl τ⟩) <| .bi rfl <| .z ?_
  refine .cond (t := decide ((j : Int) < (a.length : Int))) rfl (fun c0 => ?_) (fun c0 => ?_)
  ·have c0 := of_decide_eq_true c0
   refine .skip <| .seq <| .block <| .seq ?_
   refine .regD (X := Unit) (by kernel_rfl) (fun ζ => .of [(0, .one (.d (.sl false 43 3 (List.map Env.c43 (a))))), (1, .one (.d (.sl false 43 3 (List.map Env.c43 (b))))), (5, .one (.d (.v (.int .i64 ((j : Int)))))), (21, .one (.d (.v (.bool (!(Env.leq (a.getD j default) (b.getD j default)))))))] []) [⟨[0], some 12, [], []⟩, ⟨[5], some 13, [], []⟩, ⟨[12, 13], some 14, [], []⟩, ⟨[14], some 15, [], []⟩, ⟨[1], some 16, [], []⟩, ⟨[5], some 17, [], []⟩, ⟨[16, 17], some 18, [], []⟩, ⟨[18], some 19, [], []⟩, ⟨[15, 19], some 20, [], []⟩, ⟨[20], some 21, [], []⟩] (by kernel_rfl) (fun k6 => ?_) ?_
   ·skip
    refine .move (.no rfl) rfl rfl rfl rfl <| .move (.no rfl) rfl rfl rfl rfl <| .indexAddr (.no rfl) rfl (j) t28 rfl t43 rfl rfl rfl (.d _ _) rfl rfl rfl (map_get (by omega)) rfl rfl <| .load (.no rfl) rfl t43 rfl rfl (.d _) rfl rfl rfl rfl <| .move (.no rfl) rfl rfl rfl rfl <| .move (.no rfl) rfl rfl rfl rfl <| .indexAddr (.no rfl) rfl (j) t28 rfl t43 rfl rfl rfl (.d _ _) rfl rfl rfl (map_get (by omega)) rfl rfl <| .load (.no rfl) rfl t43 rfl rfl (.d _) rfl rfl rfl rfl ?_
    refine .call (.no rfl) rfl [] [] (c_l6Leq (a.getD j default) (b.getD j default) (by first | exact hf j (by omega) | (have h8 := hx _ (getD_mem (j := j) (by omega)); have h9 := hy _ (getD_mem (j := j) (by omega)); omega)) (by first | exact hf j (by omega) | (have h8 := hx _ (getD_mem (j := j) (by omega)); have h9 := hy _ (getD_mem (j := j) (by omega)); omega))) rfl rfl rfl rfl rfl (.dd (.dd (.dd (.dd (.dd (.dd .nil)))))) rfl rfl (fun h => absurd rfl h) (.own [20, 0] .nil) (.nil) rfl rfl rfl (by simp) rfl rfl rfl <| .un (.no rfl) rfl rfl rfl rfl rfl ?_
    exact .fin () (.of (.r rfl) .nil)
   intro _
   refine .cond (t := !(Env.leq (a.getD j default) (b.getD j default))) rfl (fun c1 => ?_) (fun c1 => ?_)
   ·have c1 := (nT id) c1
    refine .seq <| .rs fun k7 => .as rfl <| .z <| .ret ?_
    exact fin0 (.inr rfl) (.one (svB (show (false) = (tabLeq a b) by (unfold tabLeq; rw [allTo_fail (j := j) (by omega) c1]))) .nil) (.dd .nil) rfl
   ·have c1 := (nF id) c1
    refine .skip <| .rs fun k9 => .mv rfl <| .bi rfl <| .as rfl <| .z ?_
    exact .here (j + 1) (.of (.cons rfl (.cons rfl (.cons (svI (show (IntKind.wrap .i64 ((j : Int) + 1)) = (((j + 1) : Int)) by first | rfl | omega | exact wrap_le (by omega) (by omega) | (rw [wrap_le (by omega) (by omega)]; omega))) .nil))) .nil) ⟨(show (j + 1) ≤ a.length ∧ allTo (j + 1) (fun i => Env.leq (a.getD i default) (b.getD i default)) = true by exact ⟨by omega, allTo_step hI.2 c1⟩), (show a.length - (j + 1) < a.length - j by omega)⟩
  ·have c0 := of_decide_eq_false c0
   refine .exit <| .seq <| .rs fun k10 => .as rfl <| .z <| .ret ?_
   exact fin0 (.inr rfl) (.one (svB (show (true) = (tabLeq a b) by (unfold tabLeq; exact (allTo_le (by omega) hI.2).symm))) .nil) (.dd .nil) rfl
theorem c_tableLeq (a : List Env) (b : List Env) (hl : a.length = b.length ∧ a.length ≤ 1048576) (hf : ∀ i, i < a.length → (a.getD i default).live = true → (b.getD i default).live = true → (a.getD i default).ints.length = (b.getD i default).ints.length ∧ (a.getD i default).arrs.length = (b.getD i default).arrs.length) (hx : ∀ x ∈ a, x.ints.length ≤ 1048576 ∧ x.arrs.length ≤ 1048576) (hy : ∀ x ∈ b, x.ints.length ≤ 1048576 ∧ x.arrs.length ≤ 1048576) : Trip Tryz.prog 41 [(false, 1), (false, 1)] ([.sl false 43 3 (List.map Env.c43 (a))] ++ [.sl false 43 3 (List.map Env.c43 (b))]) [(false, 1)] [.v (.bool (tabLeq a b))] [] := by
 refine Trip.of Tryz.func41 (by decide) (c := _) rfl rfl (Nat.le_of_ble_eq_true rfl) rfl (AftOk.nil _) <| .sl (t := 0) rfl fun hs1l => .sl (t := 1) rfl fun hs2l => .seq <| .rs fun k3 => .as rfl <| .z <| .seq <| .seq ?_
 refine .rs fun k4 => .mv rfl <| .g (fun _ τ => ⟨_, .len (.no rfl) rfl (z := (a.length : Int)) t28 rfl rfl rfl (.d _ _) (map_len _ _) rfl τ⟩) <| .mv rfl <| .z <| .block ?_
 refine .loop (X := Nat) (fun ζ => .of [(1, .one (.d (.sl false 43 3 (List.map Env.c43 (b))))), (7, .one (.d (.sl false 43 3 (List.map Env.c43 (a))))), (8, .one (.d (.v (.int .i64 ((a.length : Int)))))), (9, .one (.d (.v (.int .i64 ((ζ : Int))))))] []) (fun ζ => ζ ≤ a.length ∧ allTo ζ (fun i => Env.leq (a.getD i default) (b.getD i default)) = true) (fun ζ => a.length - ζ) ?_ ?_
 ·skip
  exact .here 0 (.of (.cons rfl (.cons rfl (.cons rfl (.cons (svI (show (0) = ((0 : Int)) by first | rfl | omega | exact wrap_le (by omega) (by omega) | (rw [wrap_le (by omega) (by omega)]; omega))) .nil)))) .nil) (show 0 ≤ a.length ∧ allTo 0 (fun i => Env.leq (a.getD i default) (b.getD i default)) = true by exact ⟨by omega, rfl⟩)
 ·rintro j hI
  have hI : j ≤ a.length ∧ allTo j (fun i => Env.leq (a.getD i default) (b.getD i default)) = true := hI
  refine .seq <| .rs fun k5 => .bi rfl <| .z <| .seq ?_
  refine .cond (t := decide ((j : Int) < (a.length : Int))) rfl (fun c0 => ?_) (fun c0 => ?_)
  ·have c0 := of_decide_eq_true c0
   refine .skip <| .seq <| .block <| .seq <| .rs fun k6 => .mv rfl <| .g (fun _ τ => ⟨_, .indexAddr (.no rfl) rfl (j) t28 rfl t43 rfl rfl rfl (.d _ _) rfl rfl rfl (map_get (by omega)) rfl rfl τ⟩) <| .lda t43 rfl (.d _) rfl <| .g (fun _ τ => ⟨_, .alloc (.no rfl) rfl z43 rfl rfl rfl τ⟩) ?_
   refine .as rfl <| .g (fun _ τ => ⟨_, .store (.no rfl) rfl t43 rfl rfl rfl rfl rfl rfl rfl rfl rfl τ⟩) <| .z <| .seq ?_
   refine .regD (X := Unit) (by kernel_rfl) (fun ζ => .of [(1, .one (.d (.sl false 43 3 (List.map Env.c43 (b))))), (7, .one (.d (.sl false 43 3 (List.map Env.c43 (a))))), (8, .one (.d (.v (.int .i64 ((a.length : Int)))))), (9, .one (.d (.v (.int .i64 ((j : Int)))))), (20, .one (.d (.v (.bool (!(Env.leq (a.getD j default) (b.getD j default)))))))] []) [⟨[6], some 14, [[6]], []⟩, ⟨[1], some 15, [], []⟩, ⟨[5], some 16, [], []⟩, ⟨[15, 16], some 17, [], []⟩, ⟨[17], some 18, [], []⟩, ⟨[14, 18], some 19, [], []⟩, ⟨[19], some 20, [], []⟩] (by kernel_rfl) (fun k7 => ?_) ?_
   ·skip
    refine .load (.no rfl) rfl t43 rfl rfl (.ptr _ _ _ _ _ rfl) rfl rfl rfl rfl <| .move (.no rfl) rfl rfl rfl rfl <| .move (.no rfl) rfl rfl rfl rfl <| .indexAddr (.no rfl) rfl (j) t28 rfl t43 rfl rfl rfl (.d _ _) rfl rfl rfl (map_get (by omega)) rfl rfl <| .load (.no rfl) rfl t43 rfl rfl (.d _) rfl rfl rfl rfl <| .call (.no rfl) rfl [] [] (c_leq (a.getD j default) (b.getD j default) (by first | exact hf j (by omega) | (have h8 := hx _ (getD_mem (j := j) (by omega)); have h9 := hy _ (getD_mem (j := j) (by omega)); omega))) rfl rfl rfl rfl rfl (.dd (.dd (.dd (.dd (.dd (.dd .nil)))))) rfl rfl (fun h => absurd rfl h) (.own [19, 0] .nil) (.nil) rfl rfl rfl (by simp) rfl rfl rfl <| .un (.no rfl) rfl rfl rfl rfl rfl ?_
    exact .fin () (.of (.r rfl) .nil)
   intro _
   refine .cond (t := !(Env.leq (a.getD j default) (b.getD j default))) rfl (fun c1 => ?_) (fun c1 => ?_)
   ·have c1 := (nT id) c1
    refine .seq <| .rs fun k8 => .as rfl <| .z <| .ret ?_
    exact fin0 (.inr rfl) (.one (svB (show (false) = (tabLeq a b) by (unfold tabLeq; rw [allTo_fail (j := j) (by omega) c1]))) .nil) (.dd .nil) rfl
   ·have c1 := (nF id) c1
    refine .skip <| .rs fun k10 => .bi rfl <| .mv rfl <| .z ?_
    exact .here (j + 1) (.of (.cons rfl (.cons rfl (.cons rfl (.cons (svI (show (IntKind.wrap .i64 ((j : Int) + 1)) = (((j + 1) : Int)) by first | rfl | omega | exact wrap_le (by omega) (by omega) | (rw [wrap_le (by omega) (by omega)]; omega))) .nil)))) .nil) ⟨(show (j + 1) ≤ a.length ∧ allTo (j + 1) (fun i => Env.leq (a.getD i default) (b.getD i default)) = true by exact ⟨by omega, allTo_step hI.2 c1⟩), (show a.length - (j + 1) < a.length - j by omega)⟩
  ·have c0 := of_decide_eq_false c0
   refine .exit <| .seq <| .rs fun k11 => .as rfl <| .z <| .ret ?_
   exact fin0 (.inr rfl) (.one (svB (show (true) = (tabLeq a b) by (unfold tabLeq; exact (allTo_le (by omega) hI.2).symm))) .nil) (.dd .nil) rfl
theorem c_l8Size (d : Decl) : Trip Tryz.prog 32 [(true, 3)] (Decl.c27 d) [(false, 1)] [.v (.int .i64 (leavesOf d))] [] := by
 refine Trip.of Tryz.func32 (by decide) (c := _) rfl rfl (Nat.le_of_ble_eq_true rfl) rfl (AftOk.nil _) <| .sla (t := 0) 0 rfl rfl fun hs1l => .sla (t := 0) 1 rfl rfl fun hs2l => .sla (t := 0) 2 rfl rfl fun hs3l => .seq <| .rs fun k4 => .g (fun _ τ => ⟨_, .box (.no rfl) rfl rfl rfl rfl rfl τ⟩) <| .as rfl <| .z ?_
 refine .seq <| .rs fun k5 => .fp t27 t24 rfl <| .ld t24 rfl (.ptr _ _ _ _ _ rfl) rfl <| .g (fun _ τ => ⟨_, .len (.no rfl) rfl (z := (d.flags.length : Int)) t24 rfl rfl rfl (.d _ _) (map_len _ _) rfl τ⟩) <| .g (fun _ τ => ⟨_, .conv (.no rfl) rfl t3 t71 rfl rfl rfl rfl (wrap_u64 (by omega) (by omega)) rfl τ⟩) <| .g (fun _ τ => ⟨_, .shl (.no rfl) rfl rfl rfl rfl (by omega) rfl rfl τ⟩) <| .as rfl <| .z ?_
 refine .ret ?_
 exact fin0 (.inr rfl) (.one (svI (show (IntKind.wrap .i64 (1 * 2 ^ (min ((d.flags.length : Int)).toNat (IntKind.bits .i64)))) = (leavesOf d) by rfl)) .nil) (.dd .nil) rfl
theorem c_leaves (d : Decl) : Trip Tryz.prog 68 [(true, 3)] (Decl.c27 d) [(false, 1)] [.v (.int .i64 (leavesOf d))] [] := by
 refine Trip.of Tryz.func68 (by decide) (c := _) rfl rfl (Nat.le_of_ble_eq_true rfl) rfl (AftOk.nil _) <| .sla (t := 0) 0 rfl rfl fun hs1l => .sla (t := 0) 1 rfl rfl fun hs2l => .sla (t := 0) 2 rfl rfl fun hs3l => .seq <| .rs fun k4 => .g (fun _ τ => ⟨_, .box (.no rfl) rfl rfl rfl rfl rfl τ⟩) <| .as rfl <| .z ?_
 refine .seq <| .rs fun k5 => .fp t27 t24 rfl <| .ld t24 rfl (.ptr _ _ _ _ _ rfl) rfl <| .g (fun _ τ => ⟨_, .len (.no rfl) rfl (z := (d.flags.length : Int)) t24 rfl rfl rfl (.d _ _) (map_len _ _) rfl τ⟩) <| .g (fun _ τ => ⟨_, .shl (.no rfl) rfl rfl rfl rfl (by omega) rfl rfl τ⟩) <| .as rfl <| .z <| .ret ?_
 exact fin0 (.inr rfl) (.one (svI (show (IntKind.wrap .i64 (1 * 2 ^ (min ((d.flags.length : Int)).toNat (IntKind.bits .i64)))) = (leavesOf d) by rfl)) .nil) (.dd .nil) rfl
theorem c_sizeE (l : List Env) : Trip Tryz.prog 67 [(false, 1)] ([.sl false 43 3 (List.map Env.c43 (l))]) [(false, 1)] [.v (.int .i64 ((l.length : Int)))] [] := by
 refine Trip.of Tryz.func67 (by decide) (c := _) rfl rfl (Nat.le_of_ble_eq_true rfl) rfl (AftOk.nil _) <| .sl (t := 0) rfl fun hs1l => .seq <| .rs fun k2 => .as rfl <| .z <| .seq <| .rs fun k3 => .mv rfl ?_
 refine .g (fun _ τ => ⟨_, .len (.no rfl) rfl (z := (l.length : Int)) t28 rfl rfl rfl (.d _ _) (map_len _ _) rfl τ⟩) <| .as rfl <| .z <| .ret ?_
 exact fin0 (.inr rfl) (.one rfl .nil) (.dd .nil) rfl
theorem c_IndexFuncE (l : List Env) (F_p : FuncId) (first_p : List (Bool × List D)) (caps_p : List D) (p : Env → Bool) (h_p : ∀ (x0 : Env), FnTrip Tryz.prog F_p first_p caps_p [(true, 3)] (Env.c43 x0) [(false, 1)] [.v (.bool (p x0))]) : Trip Tryz.prog 103 [(false, 1), (false, 1)] ([.sl false 43 3 (List.map Env.c43 (l))] ++ [.fn F_p first_p caps_p]) [(false, 1)] [.v (.int .i64 (idx p l))] [] := by
 refine Trip.of Tryz.func103 (by decide) (c := _) rfl rfl (Nat.le_of_ble_eq_true rfl) rfl (AftOk.nil _) <| .sl (t := 0) rfl fun hs1l => .seq <| .rs fun k2 => .as rfl <| .z <| .seq <| .seq <| .rs fun k3 => ?_
 refine .mv rfl <| .g (fun _ τ => ⟨_, .len (.no rfl) rfl (z := (l.length : Int)) t28 rfl rfl rfl (.d _ _) (map_len _ _) rfl τ⟩) <| .mv rfl <| .z <| .block ?_
 refine .loop (X := Nat) (fun ζ => .of [(0, .one (.d (.sl false 43 3 (List.map Env.c43 (l))))), (1, .one (.d (.fn F_p first_p caps_p))), (7, .one (.d (.v (.int .i64 ((l.length : Int)))))), (8, .one (.d (.v (.int .i64 ((ζ : Int))))))] []) (fun ζ => ζ ≤ l.length ∧ allTo ζ (fun i => !p (l.getD i default)) = true) (fun ζ => l.length - ζ) ?_ ?_
 ·skip
  exact .here 0 (.of (.cons rfl (.cons rfl (.cons rfl (.cons (svI (show (0) = ((0 : Int)) by first | rfl | omega | exact wrap_le (by omega) (by omega) | (rw [wrap_le (by omega) (by omega)]; omega))) .nil)))) .nil) (show 0 ≤ l.length ∧ allTo 0 (fun i => !p (l.getD i default)) = true by exact ⟨by omega, rfl⟩)
 ·rintro j hI
  have hI : j ≤ l.length ∧ allTo j (fun i => !p (l.getD i default)) = true := hI
  refine .seq <| .rs fun k4 => .bi rfl <| .z <| .seq ?_
  refine .cond (t := decide ((j : Int) < (l.length : Int))) rfl (fun c0 => ?_) (fun c0 => ?_)
  ·have c0 := of_decide_eq_true c0
   refine .skip <| .seq <| .block <| .seq <| .rs fun k5 => .mv rfl <| .as rfl <| .z <| .seq ?_
   refine .rs fun k6 => .mv rfl <| .mv rfl <| .mv rfl <| .g (fun _ τ => ⟨_, .indexAddr (.no rfl) rfl (j) t28 rfl t43 rfl rfl rfl (.d _ _) rfl rfl rfl (map_get (by omega)) rfl rfl τ⟩) <| .lda t43 rfl (.d _) rfl <| .g (fun _ τ => ⟨_, .callF (.no rfl) rfl (ds := [.v (.bool ((l.getD j default).live)), .sl false 70 2 (List.map Iv.c ((l.getD j default).ints)), .sl false 70 2 (List.map Iv.c ((l.getD j default).arrs))]) (h_p (l.getD j default)) rfl rfl rfl rfl (.own [16, 0] .nil) rfl rfl rfl rfl rfl rfl τ⟩) <| .z ?_
   refine .cond (t := p (l.getD j default)) rfl (fun c1 => ?_) (fun c1 => ?_)
   ·have c1 := c1
    refine .seq <| .rs fun k7 => .mv rfl <| .as rfl <| .z <| .ret ?_
    exact fin0 (.inr rfl) (.one (svI (show ((j : Int)) = (idx p l) by exact (idx_found (j := j) (by omega) hI.2 (by simpa using c1)).symm)) .nil) (.dd .nil) rfl
   ·have c1 := c1
    refine .skip <| .rs fun k9 => .bi rfl <| .mv rfl <| .z ?_
    exact .here (j + 1) (.of (.cons rfl (.cons rfl (.cons rfl (.cons (svI (show (IntKind.wrap .i64 ((j : Int) + 1)) = (((j + 1) : Int)) by first | rfl | omega | exact wrap_le (by omega) (by omega) | (rw [wrap_le (by omega) (by omega)]; omega))) .nil)))) .nil) ⟨(show (j + 1) ≤ l.length ∧ allTo (j + 1) (fun i => !p (l.getD i default)) = true by exact ⟨by omega, allTo_step hI.2 (by simpa using c1)⟩), (show l.length - (j + 1) < l.length - j by omega)⟩
  ·have c0 := of_decide_eq_false c0
   refine .exit <| .seq <| .rs fun k10 => .as rfl <| .z <| .ret ?_
   exact fin0 (.inr rfl) (.one (svI (show (-1) = (idx p l) by exact (idx_none (by omega) hI.2).symm)) .nil) (.dd .nil) rfl
theorem c_ContainsFuncE (l : List Env) (F_p : FuncId) (first_p : List (Bool × List D)) (caps_p : List D) (p : Env → Bool) (h_p : ∀ (x0 : Env), FnTrip Tryz.prog F_p first_p caps_p [(true, 3)] (Env.c43 x0) [(false, 1)] [.v (.bool (p x0))]) : Trip Tryz.prog 90 [(false, 1), (false, 1)] ([.sl false 43 3 (List.map Env.c43 (l))] ++ [.fn F_p first_p caps_p]) [(false, 1)] [.v (.bool (l.any p))] [] := by
 refine Trip.of Tryz.func90 (by decide) (c := _) rfl rfl (Nat.le_of_ble_eq_true rfl) rfl (AftOk.nil _) <| .sl (t := 0) rfl fun hs1l => .seq <| .rs fun k2 => .as rfl <| .z <| .seq <| .rs fun k3 => .mv rfl ?_
 refine .mv rfl <| .c0 (c_IndexFuncE l F_p first_p caps_p p h_p) rfl (.dd (.dd .nil)) (.own [7, 0] .nil) rfl <| .bi rfl <| .as rfl <| .z <| .ret ?_
 exact fin0 (.inr rfl) (.one (svB (show (decide ((idx p l) ≥ 0)) = (l.any p) by exact idx_any _ _)) .nil) (.dd .nil) rfl
theorem c_areAll1E (x : Env) (F_p : FuncId) (first_p : List (Bool × List D)) (caps_p : List D) (p : Env → Bool) (h_p : ∀ (x0 : Env), FnTrip Tryz.prog F_p first_p caps_p [(true, 3)] (Env.c43 x0) [(false, 1)] [.v (.bool (p x0))]) : Trip Tryz.prog 91 [(true, 3), (false, 1)] (Env.c43 x ++ [.pt false [.fn F_p first_p caps_p]]) [(false, 1)] [.v (.bool (!p x))] [] := by
 refine Trip.of Tryz.func91 (by decide) (c := _) rfl rfl (Nat.le_of_ble_eq_true rfl) rfl (AftOk.nil _) <| .sla (t := 0) 1 rfl rfl fun hs1l => .sla (t := 0) 2 rfl rfl fun hs2l => .seq <| .rs fun k3 => .g (fun _ τ => ⟨_, .box (.no rfl) rfl rfl rfl rfl rfl τ⟩) <| .as rfl <| .z <| .seq ?_
 refine .rs fun k4 => .ld t101 rfl (.d _) rfl <| .lda t43 rfl (.ptr _ _ _ _ _ rfl) rfl <| .g (fun _ τ => ⟨_, .callF (.no rfl) rfl (ds := [.v (.bool (x.live)), .sl false 70 2 (List.map Iv.c (x.ints)), .sl false 70 2 (List.map Iv.c (x.arrs))]) (h_p x) rfl rfl rfl rfl (.own [6, 0] .nil) rfl rfl rfl rfl rfl rfl τ⟩) <| .un rfl <| .as rfl <| .z <| .ret ?_
 exact fin0 (.inr rfl) (.one (svB (show (!(p x)) = (!p x) by rfl)) .nil) (.dd .nil) rfl
theorem c_areAllE (l : List Env) (F_p : FuncId) (first_p : List (Bool × List D)) (caps_p : List D) (p : Env → Bool) (h_p : ∀ (x0 : Env), FnTrip Tryz.prog F_p first_p caps_p [(true, 3)] (Env.c43 x0) [(false, 1)] [.v (.bool (p x0))]) : Trip Tryz.prog 69 [(false, 1), (false, 1)] ([.sl false 43 3 (List.map Env.c43 (l))] ++ [.fn F_p first_p caps_p]) [(false, 1)] [.v (.bool (l.all p))] [] := by
 refine Trip.of Tryz.func69 (by decide) (c := _) rfl rfl (Nat.le_of_ble_eq_true rfl) rfl (AftOk.nil _) <| .sl (t := 0) rfl fun hs1l => .seq <| .rs fun k2 => .g (fun _ τ => ⟨_, .box (.no rfl) rfl rfl rfl rfl rfl τ⟩) <| .as rfl <| .z <| .seq <| .rs fun k3 => ?_
 refine .mv rfl <| .g (fun _ τ => ⟨_, .makeFunc (.no rfl) rfl rfl rfl rfl rfl τ⟩) <| .g (fun _ τ => ⟨_, .call (.no rfl) rfl [[3]] [([3], (k2, k2, .box [.d (.fn F_p first_p caps_p)]))] (c_ContainsFuncE l 91 [] [.pt false [.fn F_p first_p caps_p]] (fun x0 => !p x0) (fun x0 => c_areAll1E x0 F_p first_p caps_p p h_p)) rfl rfl rfl rfl rfl (.dd (.cons (Reads.clo0 (.cons (Reads.ptr0 (.head _) (.head _) (.cons (Reads.d _) .nil)) .nil)).gives .nil)) rfl rfl (fun _ => (ownCons (Owned.v _) ownNil)) (.own [7, 0] .nil) (.nil) rfl rfl rfl (AllH.get (.r rfl)) rfl rfl rfl τ⟩) <| .un rfl <| .as rfl <| .z <| .ret ?_
 exact fin0 (.inr rfl) (.one (svB (show (!(l.any (fun x0 => !p x0))) = (l.all p) by exact not_any _ _)) .nil) (.dd .nil) rfl
end Go.Proofs

namespace Go.Proofs
open Go Go.Proofs Go.Ev

theorem c_l8Join (a : List Env) (b : List Env) (hl : a.length = b.length ∧ a.length ≤ 1048576) (hf : ∀ i, i < a.length → (a.getD i default).live = true → (b.getD i default).live = true → (a.getD i default).ints.length = (b.getD i default).ints.length ∧ (a.getD i default).arrs.length = (b.getD i default).arrs.length) (hx : ∀ x ∈ a, x.ints.length ≤ 1048576 ∧ x.arrs.length ≤ 1048576) (hy : ∀ x ∈ b, x.ints.length ≤ 1048576 ∧ x.arrs.length ≤ 1048576) : Trip Tryz.prog 22 [(false, 1), (false, 1)] ([.sl false 43 3 (List.map Env.c43 (a))] ++ [.sl false 43 3 (List.map Env.c43 (b))]) [(false, 1)] [.sl true 43 3 (List.map Env.co43 (zip2 Env.join a b))] [] := by
 refine Trip.of Tryz.func22 (by decide) (c := _) rfl rfl (Nat.le_of_ble_eq_true rfl) rfl (AftOk.nil _) <| .sl (t := 0) rfl fun hs1l => .sl (t := 1) rfl fun hs2l => .seq <| .rs fun k3 => .as rfl <| .z <| .seq <| .rs fun k4 => ?_
 refine .g (fun _ τ => ⟨_, .buildSlice (.no rfl) rfl (els := []) t28 rfl z43 rfl rfl rfl rfl rfl rfl rfl rfl (by simp [i43]) .nil rfl rfl rfl τ⟩) <| .as rfl <| .z <| .seq <| .seq <| .rs fun k5 => .as rfl <| .z <| .block ?_
 refine .loop (X := Nat × Nat × Nat) (fun ζ => .of [(0, .one (.d (.sl false 43 3 (List.map Env.c43 (a))))), (1, .one (.d (.sl false 43 3 (List.map Env.c43 (b))))), (5, .one (.ref [7] (ζ.2.1))), (6, .one (.d (.v (.int .i64 ((ζ.1 : Int))))))] [([7], (ζ.2.1, ζ.2.2, .row 43 3 (List.map Env.co43 (zip2To Env.join a b ζ.1))))]) (fun ζ => ζ.1 ≤ a.length) (fun ζ => a.length - ζ.1) ?_ ?_
 ·skip
  exact .here (0, k4, k4) (.of (.cons rfl (.cons rfl (.cons rfl (.cons (svI (show (0) = ((0 : Int)) by first | rfl | omega | exact wrap_le (by omega) (by omega) | (rw [wrap_le (by omega) (by omega)]; omega))) .nil)))) (.cons (rowE (show [] = List.map Env.co43 (zip2To Env.join a b 0) by first | rfl | exact congrArg _ (zip2To_step _ _ _ _))) .nil)) (show 0 ≤ a.length by omega)
 ·rintro ⟨j, q6, q7⟩ hI
  have hI : j ≤ a.length := hI
  dsimp only
  refine .seq <| .seq <| .rs fun k8 => .mv rfl <| .mv rfl <| .g (fun _ τ => ⟨_, .len (.no rfl) rfl (z := (a.length : Int)) t28 rfl rfl rfl (.d _ _) (map_len _ _) rfl τ⟩) <| .bi rfl <| .z ?_
  refine .cond (t := decide ((j : Int) < (a.length : Int))) rfl (fun c0 => ?_) (fun c0 => ?_)
  ·have c0 := of_decide_eq_true c0
   refine .skip <| .seq <| .block ?_
   refine .regD (X := Nat) (by kernel_rfl) (fun ζ => .of [(0, .one (.d (.sl false 43 3 (List.map Env.c43 (a))))), (1, .one (.d (.sl false 43 3 (List.map Env.c43 (b))))), (5, .one (.ref [7] (ζ))), (6, .one (.d (.v (.int .i64 ((j : Int))))))] [([7], (ζ, ζ, .row 43 3 (List.map Env.co43 (zip2To Env.join a b j ++ [(Env.join (a.getD j default) (b.getD j default))]))))]) [⟨[5], some 14, [], []⟩, ⟨[0], some 15, [], []⟩, ⟨[6], some 16, [], []⟩, ⟨[15, 16], some 17, [], []⟩, ⟨[17], some 18, [], []⟩, ⟨[1], some 19, [], []⟩, ⟨[6], some 20, [], []⟩, ⟨[19, 20], some 21, [], []⟩, ⟨[21], some 22, [], []⟩, ⟨[18, 22], some 23, [], [[23, 1], [23, 2]]⟩, ⟨[23], some 24, [[23, 1], [23, 2]], [[23, 1], [23, 2], [24]]⟩, ⟨[14, 24], some 25, [[7], [24]], [[24], [7]]⟩, ⟨[25], some 5, [], []⟩] (by kernel_rfl) (fun k9 => ?_) ?_
   ·skip
    refine .move (.no rfl) rfl rfl rfl rfl <| .move (.no rfl) rfl rfl rfl rfl <| .move (.no rfl) rfl rfl rfl rfl <| .indexAddr (.no rfl) rfl (j) t28 rfl t43 rfl rfl rfl (.d _ _) rfl rfl rfl (map_get (by omega)) rfl rfl <| .load (.no rfl) rfl t43 rfl rfl (.d _) rfl rfl rfl rfl <| .move (.no rfl) rfl rfl rfl rfl <| .move (.no rfl) rfl rfl rfl rfl <| .indexAddr (.no rfl) rfl (j) t28 rfl t43 rfl rfl rfl (.d _ _) rfl rfl rfl (map_get (by omega)) rfl rfl <| .load (.no rfl) rfl t43 rfl rfl (.d _) rfl rfl rfl rfl ?_
    refine .call (.no rfl) rfl [] [] (c_l6Join (a.getD j default) (b.getD j default) (by first | exact hf j (by omega) | omega | (have h8 := hx _ (getD_mem (j := j) (by omega)); have h9 := hy _ (getD_mem (j := j) (by omega)); omega)) (by first | exact hf j (by omega) | omega | (have h8 := hx _ (getD_mem (j := j) (by omega)); have h9 := hy _ (getD_mem (j := j) (by omega)); omega))) rfl rfl rfl rfl rfl (.dd (.dd (.dd (.dd (.dd (.dd .nil)))))) rfl rfl (fun h => absurd rfl h) (.own [23, 0] (.own [23, 1] (.own [23, 2] .nil))) (.nil) rfl rfl rfl (by simp) rfl rfl rfl ?_
    refine .buildSlice (.no rfl) rfl (els := [[.v (.bool ((Env.join (a.getD j default) (b.getD j default)).live)), .sl true 70 2 (List.map Iv.c ((Env.join (a.getD j default) (b.getD j default)).ints)), .sl true 70 2 (List.map Iv.c ((Env.join (a.getD j default) (b.getD j default)).arrs))]]) t28 rfl z43 rfl rfl rfl rfl rfl rfl rfl rfl (by simp [i43]) (.cons _ _ _ _ _ _ (.d _) (.cons _ _ _ _ _ _ (.ref _ _ _ _ _ _ rfl) (.cons _ _ _ _ _ _ (.ref _ _ _ _ _ _ rfl) .nil))) rfl rfl rfl <| .append (.no rfl) rfl (l3 := List.map Env.co43 (zip2To Env.join a b j ++ [(Env.join (a.getD j default) (b.getD j default))])) t28 rfl z43 rfl rfl rfl rfl rfl rfl rfl rfl (.ref _ _ _ _ rfl) (.take _ _ _ _ _ rfl) rfl (by simp only [List.length_map, zip2To_len, i43]; simp; omega) (map_snoc _ _ _) rfl rfl <| .assign (.no rfl) rfl rfl rfl rfl ?_
    exact .fin (k9 + 1 + 1 + 1 + 1 + 1 + 1 + 1 + 1 + 1 + 1 + 1) (.of (.r rfl) (.r rfl))
   intro g10
   refine .rs fun k11 => .mv rfl <| .bi rfl <| .as rfl <| .z ?_
   exact .here ((j + 1), g10, g10) (.of (.cons rfl (.cons rfl (.cons rfl (.cons (svI (show (IntKind.wrap .i64 ((j : Int) + 1)) = (((j + 1) : Int)) by first | rfl | omega | exact wrap_le (by omega) (by omega) | (rw [wrap_le (by omega) (by omega)]; omega))) .nil)))) (.cons (rowE (show List.map Env.co43 (zip2To Env.join a b j ++ [(Env.join (a.getD j default) (b.getD j default))]) = List.map Env.co43 (zip2To Env.join a b (j + 1)) by first | rfl | exact congrArg _ (zip2To_step _ _ _ _))) .nil)) ⟨(show (j + 1) ≤ a.length by omega), (show a.length - (j + 1) < a.length - j by omega)⟩
  ·have c0 := of_decide_eq_false c0
   refine .exit <| .seq <| .rs fun k12 => .mv rfl <| .as rfl <| .z <| .ret ?_
   have e13 : (zip2To Env.join a b j) = (zip2 Env.join a b) := by exact zip2To_all _ hI (by omega)
   exact fin1 (.inr rfl) [] [([7], (q6, q7, .row 43 3 (List.map Env.co43 (zip2 Env.join a b))))] (.one rfl .nil) (.cons (.ref (.head _)) .nil) rfl rfl (.cons (rowE (congrArg (List.map Env.co43) e13)) .nil)
theorem c_tableWith (a : List Env) (b : List Env) (F_f : FuncId) (first_f : List (Bool × List D)) (caps_f : List D) (f : Iv → Iv → Iv) (h_f : ∀ (x0 : Iv) (x1 : Iv), FnTrip Tryz.prog F_f first_f caps_f [(true, 2), (true, 2)] (Iv.c x0 ++ Iv.c x1) [(true, 2)] [.v (.int .i64 ((f x0 x1).lo)), .v (.int .i64 ((f x0 x1).hi))]) (hl : a.length = b.length ∧ a.length ≤ 1048576) (hf : ∀ i, i < a.length → (a.getD i default).live = true → (b.getD i default).live = true → (a.getD i default).ints.length = (b.getD i default).ints.length ∧ (a.getD i default).arrs.length = (b.getD i default).arrs.length) (hx : ∀ x ∈ a, x.ints.length ≤ 1048576 ∧ x.arrs.length ≤ 1048576) (hy : ∀ x ∈ b, x.ints.length ≤ 1048576 ∧ x.arrs.length ≤ 1048576) : Trip Tryz.prog 39 [(false, 1), (false, 1), (false, 1)] ([.sl false 43 3 (List.map Env.c43 (a))] ++ [.sl false 43 3 (List.map Env.c43 (b))] ++ [.fn F_f first_f caps_f]) [(false, 1)] [.sl true 43 3 (List.map Env.co43 (zip2 (Env.joinW f) a b))] [] := by
 refine Trip.of Tryz.func39 (by decide) (c := _) rfl rfl (Nat.le_of_ble_eq_true rfl) rfl (AftOk.nil _) <| .sl (t := 0) rfl fun hs1l => .sl (t := 1) rfl fun hs2l => .seq <| .rs fun k3 => .as rfl <| .z <| .seq <| .rs fun k4 => ?_
 refine .as rfl <| .z <| .seq <| .seq <| .rs fun k5 => .mv rfl <| .g (fun _ τ => ⟨_, .len (.no rfl) rfl (z := (a.length : Int)) t28 rfl rfl rfl (.d _ _) (map_len _ _) rfl τ⟩) <| .mv rfl <| .z ?_
 refine .block ?_
 refine .loop (X := Nat × Nat × Nat) (fun ζ => .of [(1, .one (.d (.sl false 43 3 (List.map Env.c43 (b))))), (2, .one (.d (.fn F_f first_f caps_f))), (7, .one (.ref [26] (ζ.2.1))), (10, .one (.d (.sl false 43 3 (List.map Env.c43 (a))))), (11, .one (.d (.v (.int .i64 ((a.length : Int)))))), (12, .one (.d (.v (.int .i64 ((ζ.1 : Int))))))] [([26], (ζ.2.1, ζ.2.2, .row 43 3 (List.map Env.co43 (zip2To (Env.joinW f) a b ζ.1))))]) (fun ζ => ζ.1 ≤ a.length) (fun ζ => a.length - ζ.1) ?_ ?_
 ·skip
  refine .nilRow 7 [26] 43 3 rfl fun k8 => ?_
  exact .here (0, k8, k8) (.of (.cons rfl (.cons rfl (.cons rfl (.cons rfl (.cons rfl (.cons (svI (show (0) = ((0 : Int)) by first | rfl | omega | exact wrap_le (by omega) (by omega) | (rw [wrap_le (by omega) (by omega)]; omega))) .nil)))))) (.cons (rowE (show [] = List.map Env.co43 (zip2To (Env.joinW f) a b 0) by first | rfl | exact congrArg _ (zip2To_step _ _ _ _))) .nil)) (show 0 ≤ a.length by omega)
 ·rintro ⟨j, q6, q7⟩ hI
  have hI : j ≤ a.length := hI
  dsimp only
  refine .seq <| .rs fun k9 => .bi rfl <| .z <| .seq ?_
  refine .cond (t := decide ((j : Int) < (a.length : Int))) rfl (fun c0 => ?_) (fun c0 => ?_)
  ·have c0 := of_decide_eq_true c0
   refine .skip <| .seq <| .block <| .seq <| .rs fun k10 => .mv rfl <| .g (fun _ τ => ⟨_, .indexAddr (.no rfl) rfl (j) t28 rfl t43 rfl rfl rfl (.d _ _) rfl rfl rfl (map_get (by omega)) rfl rfl τ⟩) <| .lda t43 rfl (.d _) rfl <| .g (fun _ τ => ⟨_, .alloc (.no rfl) rfl z43 rfl rfl rfl τ⟩) ?_
   refine .as rfl <| .g (fun _ τ => ⟨_, .store (.no rfl) rfl t43 rfl rfl rfl rfl rfl rfl rfl rfl rfl τ⟩) <| .z ?_
   refine .regD (X := Nat) (by kernel_rfl) (fun ζ => .of [(1, .one (.d (.sl false 43 3 (List.map Env.c43 (b))))), (2, .one (.d (.fn F_f first_f caps_f))), (7, .one (.ref [26] (ζ))), (10, .one (.d (.sl false 43 3 (List.map Env.c43 (a))))), (11, .one (.d (.v (.int .i64 ((a.length : Int)))))), (12, .one (.d (.v (.int .i64 ((j : Int))))))] [([26], (ζ, ζ, .row 43 3 (List.map Env.co43 (zip2To (Env.joinW f) a b j ++ [(Env.joinW f (a.getD j default) (b.getD j default))]))))]) [⟨[7], some 17, [], []⟩, ⟨[9], some 18, [[9]], []⟩, ⟨[1], some 19, [], []⟩, ⟨[8], some 20, [], []⟩, ⟨[19, 20], some 21, [], []⟩, ⟨[21], some 22, [], []⟩, ⟨[2], some 23, [], []⟩, ⟨[18, 22, 23], some 24, [], [[24, 1], [24, 2]]⟩, ⟨[24], some 25, [[24, 1], [24, 2]], [[24, 1], [24, 2], [25]]⟩, ⟨[17, 25], some 26, [[26], [25]], [[25], [26]]⟩, ⟨[26], some 7, [], []⟩] (by kernel_rfl) (fun k11 => ?_) ?_
   ·skip
    refine .move (.no rfl) rfl rfl rfl rfl <| .load (.no rfl) rfl t43 rfl rfl (.ptr _ _ _ _ _ rfl) rfl rfl rfl rfl <| .move (.no rfl) rfl rfl rfl rfl <| .move (.no rfl) rfl rfl rfl rfl <| .indexAddr (.no rfl) rfl (j) t28 rfl t43 rfl rfl rfl (.d _ _) rfl rfl rfl (map_get (by omega)) rfl rfl <| .load (.no rfl) rfl t43 rfl rfl (.d _) rfl rfl rfl rfl <| .move (.no rfl) rfl rfl rfl rfl ?_
    refine .call (.no rfl) rfl [] [] (c_with (a.getD j default) (b.getD j default) F_f first_f caps_f f h_f (by first | exact hf j (by omega) | omega | (have h8 := hx _ (getD_mem (j := j) (by omega)); have h9 := hy _ (getD_mem (j := j) (by omega)); omega)) (by first | exact hf j (by omega) | omega | (have h8 := hx _ (getD_mem (j := j) (by omega)); have h9 := hy _ (getD_mem (j := j) (by omega)); omega))) rfl rfl rfl rfl rfl (.dd (.dd (.dd (.dd (.dd (.dd (.dd .nil))))))) rfl rfl (fun h => absurd rfl h) (.own [24, 0] (.own [24, 1] (.own [24, 2] .nil))) (.nil) rfl rfl rfl (by simp) rfl rfl rfl ?_
    refine .buildSlice (.no rfl) rfl (els := [[.v (.bool ((Env.joinW f (a.getD j default) (b.getD j default)).live)), .sl true 70 2 (List.map Iv.c ((Env.joinW f (a.getD j default) (b.getD j default)).ints)), .sl true 70 2 (List.map Iv.c ((Env.joinW f (a.getD j default) (b.getD j default)).arrs))]]) t28 rfl z43 rfl rfl rfl rfl rfl rfl rfl rfl (by simp [i43]) (.cons _ _ _ _ _ _ (.d _) (.cons _ _ _ _ _ _ (.ref _ _ _ _ _ _ rfl) (.cons _ _ _ _ _ _ (.ref _ _ _ _ _ _ rfl) .nil))) rfl rfl rfl <| .append (.no rfl) rfl (l3 := List.map Env.co43 (zip2To (Env.joinW f) a b j ++ [(Env.joinW f (a.getD j default) (b.getD j default))])) t28 rfl z43 rfl rfl rfl rfl rfl rfl rfl rfl (.ref _ _ _ _ rfl) (.take _ _ _ _ _ rfl) rfl (by simp only [List.length_map, zip2To_len, i43]; simp; omega) (map_snoc _ _ _) rfl rfl <| .assign (.no rfl) rfl rfl rfl rfl ?_
    exact .fin (k11 + 1 + 1 + 1 + 1 + 1 + 1 + 1 + 1 + 1) (.of (.r rfl) (.r rfl))
   intro g12
   refine .rs fun k13 => .bi rfl <| .mv rfl <| .z ?_
   exact .here ((j + 1), g12, g12) (.of (.cons rfl (.cons rfl (.cons rfl (.cons rfl (.cons rfl (.cons (svI (show (IntKind.wrap .i64 ((j : Int) + 1)) = (((j + 1) : Int)) by first | rfl | omega | exact wrap_le (by omega) (by omega) | (rw [wrap_le (by omega) (by omega)]; omega))) .nil)))))) (.cons (rowE (show List.map Env.co43 (zip2To (Env.joinW f) a b j ++ [(Env.joinW f (a.getD j default) (b.getD j default))]) = List.map Env.co43 (zip2To (Env.joinW f) a b (j + 1)) by first | rfl | exact congrArg _ (zip2To_step _ _ _ _))) .nil)) ⟨(show (j + 1) ≤ a.length by omega), (show a.length - (j + 1) < a.length - j by omega)⟩
  ·have c0 := of_decide_eq_false c0
   refine .exit <| .seq <| .rs fun k14 => .mv rfl <| .as rfl <| .z <| .ret ?_
   have e15 : (zip2To (Env.joinW f) a b j) = (zip2 (Env.joinW f) a b) := by exact zip2To_all _ hI (by omega)
   exact fin1 (.inr rfl) [] [([26], (q6, q7, .row 43 3 (List.map Env.co43 (zip2 (Env.joinW f) a b))))] (.one rfl .nil) (.cons (.ref (.head _)) .nil) rfl rfl (.cons (rowE (congrArg (List.map Env.co43) e15)) .nil)
end Go.Proofs

namespace Go.Proofs
open Go Go.Proofs Go.Ev

theorem c_sTableOk (d : Decl) (t : List Env) (hs : ∀ x ∈ Decl.names d, x.size ≤ 9223372036854775807) (hd : d.vars.length ≤ 1048576 ∧ d.flags.length ≤ 1048576 ∧ d.arrays.length ≤ 1048576) (hx : ∀ x ∈ t, x.ints.length ≤ 1048576 ∧ x.arrs.length ≤ 1048576) : Trip Tryz.prog 9 [(true, 3), (false, 1)] (Decl.c27 d ++ [.sl false 43 3 (List.map Env.c43 (t))]) [(false, 1)] [.v (.bool (Table.ok d t))] [] := by
 refine Trip.of Tryz.func9 (by decide) (c := _) rfl rfl (Nat.le_of_ble_eq_true rfl) rfl (AftOk.nil _) <| .sla (t := 0) 0 rfl rfl fun hs1l => .sla (t := 0) 1 rfl rfl fun hs2l => .sla (t := 0) 2 rfl rfl fun hs3l => .sl (t := 1) rfl fun hs4l => .seq <| .rs fun k5 => .g (fun _ τ => ⟨_, .box (.no rfl) rfl rfl rfl rfl rfl τ⟩) <| .as rfl ?_
 refine .z <| .seq <| .seq ?_
 refine .reg (X := Unit) (fun ζ => .of [(1, .one (.d (.sl false 43 3 (List.map Env.c43 (t))))), (2, .one (.ptr [2] (k5) 0)), (15, .one (.d (.v (.bool ((!(Decl.ok d) || (t.length : Int) != (leavesOf d)))))))] [([2], (k5, k5, .box [.d (.sl false 9 1 (List.map strc (d.vars))), .d (.sl false 9 1 (List.map strc (d.flags))), .d (.sl false 79 2 (List.map Arr.c (d.arrays)))]))]) [⟨[2], some 6, [[2]], []⟩, ⟨[6], some 7, [], []⟩, ⟨[7], some 8, [], []⟩, ⟨[8], some 9, [], []⟩, ⟨[9, 1], some 10, [], []⟩, ⟨[9, 10], some 11, [], []⟩, ⟨[9, 2], some 12, [[2]], []⟩, ⟨[9, 12], some 13, [], []⟩, ⟨[9, 11, 13], some 14, [], []⟩, ⟨[9, 14], some 15, [], []⟩] (fun k6 => ?_) ?_
 ·skip
  refine .load (.no rfl) rfl t27 rfl rfl (.ptr _ _ _ _ _ rfl) rfl rfl rfl rfl <| .call (.no rfl) rfl [] [] (c_sDeclOk d (by first | assumption | exact hx _ (getD_mem (by omega))) (by first | assumption | exact hx _ (getD_mem (by omega)))) rfl rfl rfl rfl rfl (.dd (.dd (.dd .nil))) rfl rfl (fun h => absurd rfl h) (.own [7, 0] .nil) (.nil) rfl rfl rfl (by simp) rfl rfl rfl <| .un (.no rfl) rfl rfl rfl rfl rfl <| .moveB (.no rfl) rfl rfl rfl rfl fun b7 g1_3 => ?_
  cases b7
  ·skip
   refine .move (.on rfl rfl rfl rfl rfl) rfl rfl rfl rfl <| .len (.on rfl rfl rfl rfl rfl) rfl (z := (t.length : Int)) t28 rfl rfl rfl (.d _ _) (map_len _ _) rfl <| .load (.on rfl rfl rfl rfl rfl) rfl t27 rfl rfl (.ptr _ _ _ _ _ rfl) rfl rfl rfl rfl <| .call (.on rfl rfl rfl rfl rfl) rfl [] [] (c_l8Size d) rfl rfl rfl rfl rfl (.dd (.dd (.dd .nil))) rfl rfl (fun h => absurd rfl h) (.own [13, 0] .nil) (.nil) rfl rfl rfl (by simp) rfl rfl rfl <| .bin (.on rfl rfl rfl rfl rfl) rfl rfl rfl rfl rfl rfl <| .pick (.no rfl) rfl rfl rfl rfl rfl ?_
   exact .fin () (.of (.cons rfl (.cons rfl (.cons (svB (show ((t.length : Int) != (leavesOf d)) = ((!(Decl.ok d) || (t.length : Int) != (leavesOf d))) by first | (simp only [g1_3, Bool.true_or, Bool.false_or, Bool.true_and, Bool.false_and, Bool.not_true, Bool.not_false]; done) | simp [g1_3])) .nil))) (.r rfl))
  ·skip
   refine .off rfl rfl rfl rfl rfl rfl rfl <| .off rfl rfl rfl rfl rfl rfl rfl <| .off rfl rfl rfl rfl rfl rfl rfl <| .off rfl rfl rfl rfl rfl rfl rfl <| .off rfl rfl rfl rfl rfl rfl rfl <| .pick (.no rfl) rfl rfl rfl rfl rfl ?_
   exact .fin () (.of (.cons rfl (.cons rfl (.cons (svB (show (true) = ((!(Decl.ok d) || (t.length : Int) != (leavesOf d))) by first | (simp only [g1_3, Bool.true_or, Bool.false_or, Bool.true_and, Bool.false_and, Bool.not_true, Bool.not_false]; done) | simp [g1_3])) .nil))) (.r rfl))
 intro _
 refine .cond (t := (!(Decl.ok d) || (t.length : Int) != (leavesOf d))) rfl (fun c0 => ?_) (fun c0 => ?_)
 ·have c0 := (oT (nT id) bT) c0
  refine .seq <| .rs fun k8 => .as rfl <| .z <| .ret ?_
  exact fin0 (.inr rfl) (.one (svB (show (false) = (Table.ok d t) by (unfold Table.ok Table.isIn; rcases c0 with h | h <;> simp [h]))) .nil) (.dd .nil) rfl
 ·have c0 := (oF (nF id) bF) c0
  refine .skip <| .seq <| .seq <| .rs fun k10 => .as rfl <| .z <| .block ?_
  refine .loop (X := Nat) (fun ζ => .of [(1, .one (.d (.sl false 43 3 (List.map Env.c43 (t))))), (2, .one (.ptr [2] (k5) 0)), (5, .one (.d (.v (.int .i64 ((ζ : Int))))))] [([2], (k5, k5, .box [.d (.sl false 9 1 (List.map strc (d.vars))), .d (.sl false 9 1 (List.map strc (d.flags))), .d (.sl false 79 2 (List.map Arr.c (d.arrays)))]))]) (fun ζ => ζ ≤ t.length ∧ allTo ζ (fun i => Env.okIn d (t.getD i default)) = true) (fun ζ => t.length - ζ) ?_ ?_
  ·skip
   exact .here 0 (.of (.cons rfl (.cons rfl (.cons (svI (show (0) = ((0 : Int)) by first | rfl | omega | exact wrap_le (by omega) (by omega) | (rw [wrap_le (by omega) (by omega)]; omega))) .nil))) (.r rfl)) (show 0 ≤ t.length ∧ allTo 0 (fun i => Env.okIn d (t.getD i default)) = true by exact ⟨by omega, rfl⟩)
  ·rintro j hI
   have hI : j ≤ t.length ∧ allTo j (fun i => Env.okIn d (t.getD i default)) = true := hI
   refine .seq <| .seq <| .rs fun k11 => .mv rfl <| .mv rfl <| .g (fun _ τ => ⟨_, .len (.no rfl) rfl (z := (t.length : Int)) t28 rfl rfl rfl (.d _ _) (map_len _ _) rfl τ⟩) <| .bi rfl <| .z ?_
   refine .cond (t := decide ((j : Int) < (t.length : Int))) rfl (fun c1 => ?_) (fun c1 => ?_)
   ·have c1 := of_decide_eq_true c1
    refine .skip <| .seq <| .block <| .seq ?_
    refine .regD (X := Unit) (by kernel_rfl) (fun ζ => .of [(1, .one (.d (.sl false 43 3 (List.map Env.c43 (t))))), (2, .one (.ptr [2] (k5) 0)), (5, .one (.d (.v (.int .i64 ((j : Int)))))), (28, .one (.d (.v (.bool (!(Decl.ok d && Env.okIn d (t.getD j default)))))))] [([2], (k5, k5, .box [.d (.sl false 9 1 (List.map strc (d.vars))), .d (.sl false 9 1 (List.map strc (d.flags))), .d (.sl false 79 2 (List.map Arr.c (d.arrays)))]))]) [⟨[2], some 22, [[2]], []⟩, ⟨[1], some 23, [], []⟩, ⟨[5], some 24, [], []⟩, ⟨[23, 24], some 25, [], []⟩, ⟨[25], some 26, [], []⟩, ⟨[22, 26], some 27, [], []⟩, ⟨[27], some 28, [], []⟩] (by kernel_rfl) (fun k12 => ?_) ?_
    ·skip
     refine .load (.no rfl) rfl t27 rfl rfl (.ptr _ _ _ _ _ rfl) rfl rfl rfl rfl <| .move (.no rfl) rfl rfl rfl rfl <| .move (.no rfl) rfl rfl rfl rfl <| .indexAddr (.no rfl) rfl (j) t28 rfl t43 rfl rfl rfl (.d _ _) rfl rfl rfl (map_get (by omega)) rfl rfl <| .load (.no rfl) rfl t43 rfl rfl (.d _) rfl rfl rfl rfl <| .call (.no rfl) rfl [] [] (c_sEnvOk d (t.getD j default) (by first | assumption | exact hx _ (getD_mem (by omega))) (by first | assumption | exact hx _ (getD_mem (by omega))) (by first | assumption | exact hx _ (getD_mem (by omega)))) rfl rfl rfl rfl rfl (.dd (.dd (.dd (.dd (.dd (.dd .nil)))))) rfl rfl (fun h => absurd rfl h) (.own [27, 0] .nil) (.nil) rfl rfl rfl (by simp) rfl rfl rfl <| .un (.no rfl) rfl rfl rfl rfl rfl ?_
     exact .fin () (.of (.r rfl) (.r rfl))
    intro _
    refine .cond (t := !(Decl.ok d && Env.okIn d (t.getD j default))) rfl (fun c2 => ?_) (fun c2 => ?_)
    ·have c2 := (nT (aF id id)) c2
     refine .seq <| .rs fun k13 => .as rfl <| .z <| .ret ?_
     exact fin0 (.inr rfl) (.one (svB (show (false) = (Table.ok d t) by (unfold Table.ok Table.isIn; rw [all_none (p := Env.okIn d) (j := j) (by omega) (by rcases c2 with h | h <;> first | exact h | (rw [c0.1] at h; exact absurd h (by decide))), Bool.and_false, Bool.and_false]))) .nil) (.dd .nil) rfl
    ·have c2 := (nF (aT id id)) c2
     refine .skip <| .rs fun k15 => .mv rfl <| .bi rfl <| .as rfl <| .z ?_
     exact .here (j + 1) (.of (.cons rfl (.cons rfl (.cons (svI (show (IntKind.wrap .i64 ((j : Int) + 1)) = (((j + 1) : Int)) by first | rfl | omega | exact wrap_le (by omega) (by omega) | (rw [wrap_le (by omega) (by omega)]; omega))) .nil))) (.r rfl)) ⟨(show (j + 1) ≤ t.length ∧ allTo (j + 1) (fun i => Env.okIn d (t.getD i default)) = true by exact ⟨by omega, allTo_step hI.2 c2.2⟩), (show t.length - (j + 1) < t.length - j by omega)⟩
   ·have c1 := of_decide_eq_false c1
    refine .exit <| .seq <| .rs fun k16 => .as rfl <| .z <| .ret ?_
    exact fin0 (.inr rfl) (.one (svB (show (true) = (Table.ok d t) by (unfold Table.ok Table.isIn; rw [c0.1, all_done (p := Env.okIn d) (j := j) (by omega) hI.2]; simp [c0.2]))) .nil) (.dd .nil) rfl
end Go.Proofs

namespace Go.Proofs
open Go Go.Proofs Go.Ev

theorem c_sTableLeq (d : Decl) (a : List Env) (b : List Env) (hs : ∀ x ∈ Decl.names d, x.size ≤ 9223372036854775807) (hd : d.vars.length ≤ 1048576 ∧ d.flags.length ≤ 1048576 ∧ d.arrays.length ≤ 1048576) (hx : ∀ x ∈ a, x.ints.length ≤ 1048576 ∧ x.arrs.length ≤ 1048576) (hy : ∀ x ∈ b, x.ints.length ≤ 1048576 ∧ x.arrs.length ≤ 1048576) (hn : a.length ≤ 1048576) : Trip Tryz.prog 15 [(true, 3), (false, 1), (false, 1)] (Decl.c27 d ++ [.sl false 43 3 (List.map Env.c43 (a))] ++ [.sl false 43 3 (List.map Env.c43 (b))]) [(false, 1)] [.v (.bool (Table.leq d a b))] [] := by
 refine Trip.of Tryz.func15 (by decide) (c := _) rfl rfl (Nat.le_of_ble_eq_true rfl) rfl (AftOk.nil _) <| .sla (t := 0) 0 rfl rfl fun hs1l => .sla (t := 0) 1 rfl rfl fun hs2l => .sla (t := 0) 2 rfl rfl fun hs3l => .sl (t := 1) rfl fun hs4l => .sl (t := 2) rfl fun hs5l => .seq <| .rs fun k6 => .g (fun _ τ => ⟨_, .box (.no rfl) rfl rfl rfl rfl rfl τ⟩) ?_
 refine .as rfl <| .z <| .seq <| .seq ?_
 refine .reg (X := Unit) (fun ζ => .of [(1, .one (.d (.sl false 43 3 (List.map Env.c43 (a))))), (2, .one (.d (.sl false 43 3 (List.map Env.c43 (b))))), (16, .one (.d (.v (.bool ((!(Table.ok d a) || !(Table.ok d b)))))))] []) [⟨[3], some 7, [[3]], []⟩, ⟨[1], some 8, [], []⟩, ⟨[7, 8], some 9, [], []⟩, ⟨[9], some 10, [], []⟩, ⟨[10], some 11, [], []⟩, ⟨[11, 3], some 12, [[3]], []⟩, ⟨[11, 2], some 13, [], []⟩, ⟨[11, 12, 13], some 14, [], []⟩, ⟨[11, 14], some 15, [], []⟩, ⟨[11, 15], some 16, [], []⟩] (fun k7 => ?_) ?_
 ·skip
  refine .load (.no rfl) rfl t27 rfl rfl (.ptr _ _ _ _ _ rfl) rfl rfl rfl rfl <| .move (.no rfl) rfl rfl rfl rfl <| .call (.no rfl) rfl [] [] (c_sTableOk d a (by first | assumption | exact ⟨(Table.fit (Table.ok_in c0.1) (Table.ok_in c0.2)).1, hn⟩ | exact (Table.fit (Table.ok_in c0.1) (Table.ok_in c0.2)).2) (by first | assumption | exact ⟨(Table.fit (Table.ok_in c0.1) (Table.ok_in c0.2)).1, hn⟩ | exact (Table.fit (Table.ok_in c0.1) (Table.ok_in c0.2)).2) (by first | assumption | exact ⟨(Table.fit (Table.ok_in c0.1) (Table.ok_in c0.2)).1, hn⟩ | exact (Table.fit (Table.ok_in c0.1) (Table.ok_in c0.2)).2)) rfl rfl rfl rfl rfl (.dd (.dd (.dd (.dd .nil)))) rfl rfl (fun h => absurd rfl h) (.own [9, 0] .nil) (.nil) rfl rfl rfl (by simp) rfl rfl rfl <| .un (.no rfl) rfl rfl rfl rfl rfl <| .moveB (.no rfl) rfl rfl rfl rfl fun b8 g1_4 => ?_
  cases b8
  ·skip
   refine .load (.on rfl rfl rfl rfl rfl) rfl t27 rfl rfl (.ptr _ _ _ _ _ rfl) rfl rfl rfl rfl <| .move (.on rfl rfl rfl rfl rfl) rfl rfl rfl rfl <| .call (.on rfl rfl rfl rfl rfl) rfl [] [] (c_sTableOk d b (by first | assumption | exact ⟨(Table.fit (Table.ok_in c0.1) (Table.ok_in c0.2)).1, hn⟩ | exact (Table.fit (Table.ok_in c0.1) (Table.ok_in c0.2)).2) (by first | assumption | exact ⟨(Table.fit (Table.ok_in c0.1) (Table.ok_in c0.2)).1, hn⟩ | exact (Table.fit (Table.ok_in c0.1) (Table.ok_in c0.2)).2) (by first | assumption | exact ⟨(Table.fit (Table.ok_in c0.1) (Table.ok_in c0.2)).1, hn⟩ | exact (Table.fit (Table.ok_in c0.1) (Table.ok_in c0.2)).2)) rfl rfl rfl rfl rfl (.dd (.dd (.dd (.dd .nil)))) rfl rfl (fun h => absurd rfl h) (.own [14, 0] .nil) (.nil) rfl rfl rfl (by simp) rfl rfl rfl <| .un (.on rfl rfl rfl rfl rfl) rfl rfl rfl rfl rfl ?_
   refine .pick (.no rfl) rfl rfl rfl rfl rfl ?_
   exact .fin () (.of (.cons rfl (.cons rfl (.cons (svB (show (!(Table.ok d b)) = ((!(Table.ok d a) || !(Table.ok d b))) by first | (simp only [g1_4, Bool.true_or, Bool.false_or, Bool.true_and, Bool.false_and, Bool.not_true, Bool.not_false]; done) | simp [g1_4])) .nil))) .nil)
  ·skip
   refine .off rfl rfl rfl rfl rfl rfl rfl <| .off rfl rfl rfl rfl rfl rfl rfl <| .off rfl rfl rfl rfl rfl rfl rfl <| .off rfl rfl rfl rfl rfl rfl rfl <| .pick (.no rfl) rfl rfl rfl rfl rfl ?_
   exact .fin () (.of (.cons rfl (.cons rfl (.cons (svB (show (true) = ((!(Table.ok d a) || !(Table.ok d b))) by first | (simp only [g1_4, Bool.true_or, Bool.false_or, Bool.true_and, Bool.false_and, Bool.not_true, Bool.not_false]; done) | simp [g1_4])) .nil))) .nil)
 intro _
 refine .cond (t := (!(Table.ok d a) || !(Table.ok d b))) rfl (fun c0 => ?_) (fun c0 => ?_)
 ·have c0 := (oT (nT id) (nT id)) c0
  refine .seq <| .rs fun k9 => .as rfl <| .z <| .ret ?_
  exact fin0 (.inr rfl) (.one (svB (show (false) = (Table.leq d a b) by (rw [Table.leq_no c0]))) .nil) (.dd .nil) rfl
 ·have c0 := (oF (nF id) (nF id)) c0
  refine .skip <| .seq <| .rs fun k11 => .mv rfl <| .mv rfl <| .c0 (c_l8Leq a b (by first | assumption | exact ⟨(Table.fit (Table.ok_in c0.1) (Table.ok_in c0.2)).1, hn⟩ | exact (Table.fit (Table.ok_in c0.1) (Table.ok_in c0.2)).2) (by first | assumption | exact ⟨(Table.fit (Table.ok_in c0.1) (Table.ok_in c0.2)).1, hn⟩ | exact (Table.fit (Table.ok_in c0.1) (Table.ok_in c0.2)).2) (by first | assumption | exact ⟨(Table.fit (Table.ok_in c0.1) (Table.ok_in c0.2)).1, hn⟩ | exact (Table.fit (Table.ok_in c0.1) (Table.ok_in c0.2)).2) (by first | assumption | exact ⟨(Table.fit (Table.ok_in c0.1) (Table.ok_in c0.2)).1, hn⟩ | exact (Table.fit (Table.ok_in c0.1) (Table.ok_in c0.2)).2)) rfl (.dd (.dd .nil)) (.own [19, 0] .nil) rfl <| .as rfl <| .z <| .ret ?_
  exact fin0 (.inr rfl) (.one (svB (show (tabLeq a b) = (Table.leq d a b) by (rw [Table.leq_yes c0]))) .nil) (.dd .nil) rfl
theorem c_isTable (d : Decl) (t : List Env) : Trip Tryz.prog 35 [(true, 3), (false, 1)] (Decl.c27 d ++ [.sl false 43 3 (List.map Env.c43 (t))]) [(false, 1)] [.v (.bool (Table.isIn d t))] [] := by
 refine Trip.of Tryz.func35 (by decide) (c := _) rfl rfl (Nat.le_of_ble_eq_true rfl) rfl (AftOk.nil _) <| .sla (t := 0) 0 rfl rfl fun hs1l => .sla (t := 0) 1 rfl rfl fun hs2l => .sla (t := 0) 2 rfl rfl fun hs3l => .sl (t := 1) rfl fun hs4l => .seq <| .rs fun k5 => .g (fun _ τ => ⟨_, .box (.no rfl) rfl rfl rfl rfl rfl τ⟩) <| .as rfl ?_
 refine .z <| .seq ?_
 refine .regD (X := Unit) (by kernel_rfl) (fun ζ => .of [(4, .one (.d (.v (.bool (((t.length : Int) == (leavesOf d) && t.all (fun x0 => Env.okIn d x0)))))))] []) [⟨[1], some 5, [], []⟩, ⟨[5], some 6, [], []⟩, ⟨[2], some 7, [[2]], []⟩, ⟨[7], some 8, [], []⟩, ⟨[6, 8], some 9, [], []⟩, ⟨[9], some 10, [], []⟩, ⟨[10, 1], some 11, [], []⟩, ⟨[10, 2], some 12, [[2]], []⟩, ⟨[10, 12], some 13, [], []⟩, ⟨[10, 11, 13], some 14, [], []⟩, ⟨[10, 14], some 15, [], []⟩, ⟨[15], some 4, [], []⟩] (by kernel_rfl) (fun k6 => ?_) ?_
 ·skip
  refine .move (.no rfl) rfl rfl rfl rfl <| .call (.no rfl) rfl [] [] (c_sizeE t) rfl rfl rfl rfl rfl (.dd .nil) rfl rfl (fun h => absurd rfl h) (.own [6, 0] .nil) (.nil) rfl rfl rfl (by simp) rfl rfl rfl <| .load (.no rfl) rfl t27 rfl rfl (.ptr _ _ _ _ _ rfl) rfl rfl rfl rfl <| .call (.no rfl) rfl [] [] (c_leaves d) rfl rfl rfl rfl rfl (.dd (.dd (.dd .nil))) rfl rfl (fun h => absurd rfl h) (.own [8, 0] .nil) (.nil) rfl rfl rfl (by simp) rfl rfl rfl <| .bin (.no rfl) rfl rfl rfl rfl rfl rfl <| .moveB (.no rfl) rfl rfl rfl rfl fun b7 g1_5 => ?_
  cases b7
  ·skip
   refine .off rfl rfl rfl rfl rfl rfl rfl <| .off rfl rfl rfl rfl rfl rfl rfl <| .off rfl rfl rfl rfl rfl rfl rfl <| .off rfl rfl rfl rfl rfl rfl rfl <| .pick (.no rfl) rfl rfl rfl rfl rfl <| .assign (.no rfl) rfl rfl rfl rfl ?_
   exact .fin () (.of (.cons (svB (show (false) = (((t.length : Int) == (leavesOf d) && t.all (fun x0 => Env.okIn d x0))) by first | (simp only [g1_5, Bool.true_or, Bool.false_or, Bool.true_and, Bool.false_and, Bool.not_true, Bool.not_false]; done) | simp [g1_5])) .nil) .nil)
  ·skip
   refine .move (.on rfl rfl rfl rfl rfl) rfl rfl rfl rfl <| .load (.on rfl rfl rfl rfl rfl) rfl t27 rfl rfl (.ptr _ _ _ _ _ rfl) rfl rfl rfl rfl <| .makeFunc (.on rfl rfl rfl rfl rfl) rfl rfl rfl rfl rfl <| .call (.on rfl rfl rfl rfl rfl) rfl [] [] (c_areAllE t 70 [(true, [.sl false 9 1 (List.map strc (d.vars)), .sl false 9 1 (List.map strc (d.flags)), .sl false 79 2 (List.map Arr.c (d.arrays))])] [] (fun x0 => Env.okIn d x0) (fun x0 => c_isEnv d x0)) rfl rfl rfl rfl rfl (.dd (.cons (Reads.clo1 (.cons (Reads.d _) (.cons (Reads.d _) (.cons (Reads.d _) .nil))) (.nil)).gives .nil)) rfl rfl (fun h => absurd rfl h) (.own [14, 0] .nil) (.nil) rfl rfl rfl (by simp) rfl rfl rfl <| .pick (.no rfl) rfl rfl rfl rfl rfl <| .assign (.no rfl) rfl rfl rfl rfl ?_
   exact .fin () (.of (.cons (svB (show (t.all (fun x0 => Env.okIn d x0)) = (((t.length : Int) == (leavesOf d) && t.all (fun x0 => Env.okIn d x0))) by first | (simp only [g1_5, Bool.true_or, Bool.false_or, Bool.true_and, Bool.false_and, Bool.not_true, Bool.not_false]; done) | simp [g1_5])) .nil) .nil)
 intro _
 refine .ret ?_
 exact fin0 (.inr rfl) (.one (svB (show (((t.length : Int) == (leavesOf d) && t.all (fun x0 => Env.okIn d x0))) = (Table.isIn d t) by rfl)) .nil) (.dd .nil) rfl
theorem c_TableOk (d : Decl) (t : List Env) (hs : ∀ x ∈ Decl.names d, x.size ≤ 9223372036854775807) (hb : d.vars.length ≤ 1048576 ∧ d.flags.length ≤ 1048576 ∧ d.arrays.length ≤ 1048576) : Trip Tryz.prog 10 [(true, 3), (false, 1)] (Decl.c27 d ++ [.sl false 43 3 (List.map Env.c43 (t))]) [(false, 1)] [.v (.bool (Table.ok d t))] [] := by
 refine Trip.of Tryz.func10 (by decide) (c := _) rfl rfl (Nat.le_of_ble_eq_true rfl) rfl (AftOk.nil _) <| .sla (t := 0) 0 rfl rfl fun hs1l => .sla (t := 0) 1 rfl rfl fun hs2l => .sla (t := 0) 2 rfl rfl fun hs3l => .sl (t := 1) rfl fun hs4l => .seq <| .rs fun k5 => .g (fun _ τ => ⟨_, .box (.no rfl) rfl rfl rfl rfl rfl τ⟩) <| .as rfl ?_
 refine .z <| .seq ?_
 refine .reg (X := Unit) (fun ζ => .of [(4, .one (.d (.v (.bool ((Decl.ok d && Table.isIn d t))))))] []) [⟨[2], some 5, [[2]], []⟩, ⟨[5], some 6, [], []⟩, ⟨[6], some 7, [], []⟩, ⟨[7, 2], some 8, [[2]], []⟩, ⟨[7, 1], some 9, [], []⟩, ⟨[7, 8, 9], some 10, [], []⟩, ⟨[7, 10], some 11, [], []⟩, ⟨[11], some 4, [], []⟩] (fun k6 => ?_) ?_
 ·skip
  refine .load (.no rfl) rfl t27 rfl rfl (.ptr _ _ _ _ _ rfl) rfl rfl rfl rfl <| .call (.no rfl) rfl [] [] (c_isRight d (by assumption) (by assumption)) rfl rfl rfl rfl rfl (.dd (.dd (.dd .nil))) rfl rfl (fun h => absurd rfl h) (.own [6, 0] .nil) (.nil) rfl rfl rfl (by simp) rfl rfl rfl <| .moveB (.no rfl) rfl rfl rfl rfl fun b7 g1_2 => ?_
  cases b7
  ·skip
   refine .off rfl rfl rfl rfl rfl rfl rfl <| .off rfl rfl rfl rfl rfl rfl rfl <| .off rfl rfl rfl rfl rfl rfl rfl <| .pick (.no rfl) rfl rfl rfl rfl rfl <| .assign (.no rfl) rfl rfl rfl rfl ?_
   exact .fin () (.of (.cons (svB (show (false) = ((Decl.ok d && Table.isIn d t)) by first | (simp only [g1_2, Bool.true_or, Bool.false_or, Bool.true_and, Bool.false_and, Bool.not_true, Bool.not_false]; done) | simp [g1_2])) .nil) .nil)
  ·skip
   refine .load (.on rfl rfl rfl rfl rfl) rfl t27 rfl rfl (.ptr _ _ _ _ _ rfl) rfl rfl rfl rfl <| .move (.on rfl rfl rfl rfl rfl) rfl rfl rfl rfl <| .call (.on rfl rfl rfl rfl rfl) rfl [] [] (c_isTable d t) rfl rfl rfl rfl rfl (.dd (.dd (.dd (.dd .nil)))) rfl rfl (fun h => absurd rfl h) (.own [10, 0] .nil) (.nil) rfl rfl rfl (by simp) rfl rfl rfl <| .pick (.no rfl) rfl rfl rfl rfl rfl <| .assign (.no rfl) rfl rfl rfl rfl ?_
   exact .fin () (.of (.cons (svB (show (Table.isIn d t) = ((Decl.ok d && Table.isIn d t)) by first | (simp only [g1_2, Bool.true_or, Bool.false_or, Bool.true_and, Bool.false_and, Bool.not_true, Bool.not_false]; done) | simp [g1_2])) .nil) .nil)
 intro _
 refine .ret ?_
 exact fin0 (.inr rfl) (.one (svB (show ((Decl.ok d && Table.isIn d t)) = (Table.ok d t) by rfl)) .nil) (.dd .nil) rfl
theorem c_areTables (d : Decl) (a : List Env) (b : List Env) (hs : ∀ x ∈ Decl.names d, x.size ≤ 9223372036854775807) (hb : d.vars.length ≤ 1048576 ∧ d.flags.length ≤ 1048576 ∧ d.arrays.length ≤ 1048576) : Trip Tryz.prog 38 [(true, 3), (false, 1), (false, 1)] (Decl.c27 d ++ [.sl false 43 3 (List.map Env.c43 (a))] ++ [.sl false 43 3 (List.map Env.c43 (b))]) [(false, 1)] [.v (.bool (Table.ok d a && Table.isIn d b))] [] := by
 refine Trip.of Tryz.func38 (by decide) (c := _) rfl rfl (Nat.le_of_ble_eq_true rfl) rfl (AftOk.nil _) <| .sla (t := 0) 0 rfl rfl fun hs1l => .sla (t := 0) 1 rfl rfl fun hs2l => .sla (t := 0) 2 rfl rfl fun hs3l => .sl (t := 1) rfl fun hs4l => .sl (t := 2) rfl fun hs5l => .seq <| .rs fun k6 => .g (fun _ τ => ⟨_, .box (.no rfl) rfl rfl rfl rfl rfl τ⟩) ?_
 refine .as rfl <| .z <| .seq ?_
 refine .reg (X := Unit) (fun ζ => .of [(6, .one (.d (.v (.bool ((Table.ok d a && Table.isIn d b))))))] []) [⟨[3], some 7, [[3]], []⟩, ⟨[1], some 8, [], []⟩, ⟨[7, 8], some 9, [], []⟩, ⟨[9], some 10, [], []⟩, ⟨[10, 3], some 11, [[3]], []⟩, ⟨[10, 2], some 12, [], []⟩, ⟨[10, 11, 12], some 13, [], []⟩, ⟨[10, 13], some 14, [], []⟩, ⟨[14], some 6, [], []⟩] (fun k7 => ?_) ?_
 ·skip
  refine .load (.no rfl) rfl t27 rfl rfl (.ptr _ _ _ _ _ rfl) rfl rfl rfl rfl <| .move (.no rfl) rfl rfl rfl rfl <| .call (.no rfl) rfl [] [] (c_TableOk d a (by assumption) (by assumption)) rfl rfl rfl rfl rfl (.dd (.dd (.dd (.dd .nil)))) rfl rfl (fun h => absurd rfl h) (.own [9, 0] .nil) (.nil) rfl rfl rfl (by simp) rfl rfl rfl <| .moveB (.no rfl) rfl rfl rfl rfl fun b8 g1_3 => ?_
  cases b8
  ·skip
   refine .off rfl rfl rfl rfl rfl rfl rfl <| .off rfl rfl rfl rfl rfl rfl rfl <| .off rfl rfl rfl rfl rfl rfl rfl <| .pick (.no rfl) rfl rfl rfl rfl rfl <| .assign (.no rfl) rfl rfl rfl rfl ?_
   exact .fin () (.of (.cons (svB (show (false) = ((Table.ok d a && Table.isIn d b)) by first | (simp only [g1_3, Bool.true_or, Bool.false_or, Bool.true_and, Bool.false_and, Bool.not_true, Bool.not_false]; done) | simp [g1_3])) .nil) .nil)
  ·skip
   refine .load (.on rfl rfl rfl rfl rfl) rfl t27 rfl rfl (.ptr _ _ _ _ _ rfl) rfl rfl rfl rfl <| .move (.on rfl rfl rfl rfl rfl) rfl rfl rfl rfl <| .call (.on rfl rfl rfl rfl rfl) rfl [] [] (c_isTable d b) rfl rfl rfl rfl rfl (.dd (.dd (.dd (.dd .nil)))) rfl rfl (fun h => absurd rfl h) (.own [13, 0] .nil) (.nil) rfl rfl rfl (by simp) rfl rfl rfl <| .pick (.no rfl) rfl rfl rfl rfl rfl <| .assign (.no rfl) rfl rfl rfl rfl ?_
   exact .fin () (.of (.cons (svB (show (Table.isIn d b) = ((Table.ok d a && Table.isIn d b)) by first | (simp only [g1_3, Bool.true_or, Bool.false_or, Bool.true_and, Bool.false_and, Bool.not_true, Bool.not_false]; done) | simp [g1_3])) .nil) .nil)
 intro _
 refine .ret ?_
 exact fin0 (.inr rfl) (.one (svB (show ((Table.ok d a && Table.isIn d b)) = (Table.ok d a && Table.isIn d b) by rfl)) .nil) (.dd .nil) rfl
theorem c_TableLeq (d : Decl) (a : List Env) (b : List Env) (hs : ∀ x ∈ Decl.names d, x.size ≤ 9223372036854775807) (hd : d.vars.length ≤ 1048576 ∧ d.flags.length ≤ 1048576 ∧ d.arrays.length ≤ 1048576) (hx : ∀ x ∈ a, x.ints.length ≤ 1048576 ∧ x.arrs.length ≤ 1048576) (hy : ∀ x ∈ b, x.ints.length ≤ 1048576 ∧ x.arrs.length ≤ 1048576) (hn : a.length ≤ 1048576) : Trip Tryz.prog 14 [(true, 3), (false, 1), (false, 1)] (Decl.c27 d ++ [.sl false 43 3 (List.map Env.c43 (a))] ++ [.sl false 43 3 (List.map Env.c43 (b))]) [(false, 1)] [.v (.bool (Table.leq d a b))] [] := by
 refine Trip.of Tryz.func14 (by decide) (c := _) rfl rfl (Nat.le_of_ble_eq_true rfl) rfl (AftOk.nil _) <| .sla (t := 0) 0 rfl rfl fun hs1l => .sla (t := 0) 1 rfl rfl fun hs2l => .sla (t := 0) 2 rfl rfl fun hs3l => .sl (t := 1) rfl fun hs4l => .sl (t := 2) rfl fun hs5l => .seq <| .rs fun k6 => .g (fun _ τ => ⟨_, .box (.no rfl) rfl rfl rfl rfl rfl τ⟩) ?_
 refine .as rfl <| .z <| .seq ?_
 refine .reg (X := Unit) (fun ζ => .of [(6, .one (.d (.v (.bool ((Table.ok d a && Table.isIn d b && tabLeq a b))))))] []) [⟨[3], some 7, [[3]], []⟩, ⟨[1], some 8, [], []⟩, ⟨[2], some 9, [], []⟩, ⟨[7, 8, 9], some 10, [], []⟩, ⟨[10], some 11, [], []⟩, ⟨[11, 1], some 12, [], []⟩, ⟨[11, 2], some 13, [], []⟩, ⟨[11, 12, 13], some 14, [], []⟩, ⟨[11, 14], some 15, [], []⟩, ⟨[15], some 6, [], []⟩] (fun k7 => ?_) ?_
 ·skip
  refine .load (.no rfl) rfl t27 rfl rfl (.ptr _ _ _ _ _ rfl) rfl rfl rfl rfl <| .move (.no rfl) rfl rfl rfl rfl <| .move (.no rfl) rfl rfl rfl rfl <| .call (.no rfl) rfl [] [] (c_areTables d a b (by first | assumption | exact ⟨(Table.fit (Table.ok_in (Bool.and_eq_true_iff.1 g1_4).1) (Bool.and_eq_true_iff.1 g1_4).2).1, hn⟩ | exact (Table.fit (Table.ok_in (Bool.and_eq_true_iff.1 g1_4).1) (Bool.and_eq_true_iff.1 g1_4).2).2) (by first | assumption | exact ⟨(Table.fit (Table.ok_in (Bool.and_eq_true_iff.1 g1_4).1) (Bool.and_eq_true_iff.1 g1_4).2).1, hn⟩ | exact (Table.fit (Table.ok_in (Bool.and_eq_true_iff.1 g1_4).1) (Bool.and_eq_true_iff.1 g1_4).2).2)) rfl rfl rfl rfl rfl (.dd (.dd (.dd (.dd (.dd .nil))))) rfl rfl (fun h => absurd rfl h) (.own [10, 0] .nil) (.nil) rfl rfl rfl (by simp) rfl rfl rfl <| .moveB (.no rfl) rfl rfl rfl rfl fun b8 g1_4 => ?_
  cases b8
  ·skip
   refine .off rfl rfl rfl rfl rfl rfl rfl <| .off rfl rfl rfl rfl rfl rfl rfl <| .off rfl rfl rfl rfl rfl rfl rfl <| .pick (.no rfl) rfl rfl rfl rfl rfl <| .assign (.no rfl) rfl rfl rfl rfl ?_
   exact .fin () (.of (.cons (svB (show (false) = ((Table.ok d a && Table.isIn d b && tabLeq a b)) by first | (simp only [g1_4, Bool.true_or, Bool.false_or, Bool.true_and, Bool.false_and, Bool.not_true, Bool.not_false]; done) | simp [g1_4])) .nil) .nil)
  ·skip
   refine .move (.on rfl rfl rfl rfl rfl) rfl rfl rfl rfl <| .move (.on rfl rfl rfl rfl rfl) rfl rfl rfl rfl ?_
   refine .call (.on rfl rfl rfl rfl rfl) rfl [] [] (c_tableLeq a b (by first | assumption | exact ⟨(Table.fit (Table.ok_in (Bool.and_eq_true_iff.1 g1_4).1) (Bool.and_eq_true_iff.1 g1_4).2).1, hn⟩ | exact (Table.fit (Table.ok_in (Bool.and_eq_true_iff.1 g1_4).1) (Bool.and_eq_true_iff.1 g1_4).2).2) (by first | assumption | exact ⟨(Table.fit (Table.ok_in (Bool.and_eq_true_iff.1 g1_4).1) (Bool.and_eq_true_iff.1 g1_4).2).1, hn⟩ | exact (Table.fit (Table.ok_in (Bool.and_eq_true_iff.1 g1_4).1) (Bool.and_eq_true_iff.1 g1_4).2).2) (by first | assumption | exact ⟨(Table.fit (Table.ok_in (Bool.and_eq_true_iff.1 g1_4).1) (Bool.and_eq_true_iff.1 g1_4).2).1, hn⟩ | exact (Table.fit (Table.ok_in (Bool.and_eq_true_iff.1 g1_4).1) (Bool.and_eq_true_iff.1 g1_4).2).2) (by first | assumption | exact ⟨(Table.fit (Table.ok_in (Bool.and_eq_true_iff.1 g1_4).1) (Bool.and_eq_true_iff.1 g1_4).2).1, hn⟩ | exact (Table.fit (Table.ok_in (Bool.and_eq_true_iff.1 g1_4).1) (Bool.and_eq_true_iff.1 g1_4).2).2)) rfl rfl rfl rfl rfl (.dd (.dd .nil)) rfl rfl (fun h => absurd rfl h) (.own [14, 0] .nil) (.nil) rfl rfl rfl (by simp) rfl rfl rfl ?_
   refine .pick (.no rfl) rfl rfl rfl rfl rfl <| .assign (.no rfl) rfl rfl rfl rfl ?_
   exact .fin () (.of (.cons (svB (show (tabLeq a b) = ((Table.ok d a && Table.isIn d b && tabLeq a b)) by first | (simp only [g1_4, Bool.true_or, Bool.false_or, Bool.true_and, Bool.false_and, Bool.not_true, Bool.not_false]; done) | simp [g1_4])) .nil) .nil)
 intro _
 refine .ret ?_
 exact fin0 (.inr rfl) (.one (svB (show ((Table.ok d a && Table.isIn d b && tabLeq a b)) = (Table.leq d a b) by rfl)) .nil) (.dd .nil) rfl
end Go.Proofs

namespace Go.Proofs
open Go Go.Proofs Go.Ev

theorem c_sTableJoin (d : Decl) (a : List Env) (b : List Env) (hs : ∀ x ∈ Decl.names d, x.size ≤ 9223372036854775807) (hd : d.vars.length ≤ 1048576 ∧ d.flags.length ≤ 1048576 ∧ d.arrays.length ≤ 1048576) (hx : Small 1048576 a) (hy : Small 1048576 b) : Trip Tryz.prog 17 [(true, 3), (false, 1), (false, 1)] (Decl.c27 d ++ [.sl false 43 3 (List.map Env.c43 (a))] ++ [.sl false 43 3 (List.map Env.c43 (b))]) [(false, 1)] [.sl true 43 3 (List.map Env.co43 (Table.joinIn d a b))] [] := by
 refine Trip.of Tryz.func17 (by decide) (c := _) rfl rfl (Nat.le_of_ble_eq_true rfl) rfl (AftOk.nil _) <| .sla (t := 0) 0 rfl rfl fun hs1l => .sla (t := 0) 1 rfl rfl fun hs2l => .sla (t := 0) 2 rfl rfl fun hs3l => .sl (t := 1) rfl fun hs4l => .sl (t := 2) rfl fun hs5l => .seq <| .rs fun k6 => .g (fun _ τ => ⟨_, .box (.no rfl) rfl rfl rfl rfl rfl τ⟩) ?_
 refine .as rfl <| .z <| .seq <| .seq ?_
 refine .reg (X := Unit) (fun ζ => .of [(1, .one (.d (.sl false 43 3 (List.map Env.c43 (a))))), (2, .one (.d (.sl false 43 3 (List.map Env.c43 (b))))), (16, .one (.d (.v (.bool ((!(Table.ok d a) || !(Table.ok d b)))))))] []) [⟨[3], some 7, [[3]], []⟩, ⟨[1], some 8, [], []⟩, ⟨[7, 8], some 9, [], []⟩, ⟨[9], some 10, [], []⟩, ⟨[10], some 11, [], []⟩, ⟨[11, 3], some 12, [[3]], []⟩, ⟨[11, 2], some 13, [], []⟩, ⟨[11, 12, 13], some 14, [], []⟩, ⟨[11, 14], some 15, [], []⟩, ⟨[11, 15], some 16, [], []⟩] (fun k7 => ?_) ?_
 ·skip
  refine .load (.no rfl) rfl t27 rfl rfl (.ptr _ _ _ _ _ rfl) rfl rfl rfl rfl <| .move (.no rfl) rfl rfl rfl rfl <| .call (.no rfl) rfl [] [] (c_sTableOk d a (by first | assumption | exact hx.2 | exact hy.2 | exact ⟨(Table.fit (Table.ok_in c0.1) (Table.ok_in c0.2)).1, hx.1⟩ | exact (Table.fit (Table.ok_in c0.1) (Table.ok_in c0.2)).2) (by first | assumption | exact hx.2 | exact hy.2 | exact ⟨(Table.fit (Table.ok_in c0.1) (Table.ok_in c0.2)).1, hx.1⟩ | exact (Table.fit (Table.ok_in c0.1) (Table.ok_in c0.2)).2) (by first | assumption | exact hx.2 | exact hy.2 | exact ⟨(Table.fit (Table.ok_in c0.1) (Table.ok_in c0.2)).1, hx.1⟩ | exact (Table.fit (Table.ok_in c0.1) (Table.ok_in c0.2)).2)) rfl rfl rfl rfl rfl (.dd (.dd (.dd (.dd .nil)))) rfl rfl (fun h => absurd rfl h) (.own [9, 0] .nil) (.nil) rfl rfl rfl (by simp) rfl rfl rfl <| .un (.no rfl) rfl rfl rfl rfl rfl ?_
  refine .moveB (.no rfl) rfl rfl rfl rfl fun b8 g1_4 => ?_
  cases b8
  ·skip
   refine .load (.on rfl rfl rfl rfl rfl) rfl t27 rfl rfl (.ptr _ _ _ _ _ rfl) rfl rfl rfl rfl <| .move (.on rfl rfl rfl rfl rfl) rfl rfl rfl rfl <| .call (.on rfl rfl rfl rfl rfl) rfl [] [] (c_sTableOk d b (by first | assumption | exact hx.2 | exact hy.2 | exact ⟨(Table.fit (Table.ok_in c0.1) (Table.ok_in c0.2)).1, hx.1⟩ | exact (Table.fit (Table.ok_in c0.1) (Table.ok_in c0.2)).2) (by first | assumption | exact hx.2 | exact hy.2 | exact ⟨(Table.fit (Table.ok_in c0.1) (Table.ok_in c0.2)).1, hx.1⟩ | exact (Table.fit (Table.ok_in c0.1) (Table.ok_in c0.2)).2) (by first | assumption | exact hx.2 | exact hy.2 | exact ⟨(Table.fit (Table.ok_in c0.1) (Table.ok_in c0.2)).1, hx.1⟩ | exact (Table.fit (Table.ok_in c0.1) (Table.ok_in c0.2)).2)) rfl rfl rfl rfl rfl (.dd (.dd (.dd (.dd .nil)))) rfl rfl (fun h => absurd rfl h) (.own [14, 0] .nil) (.nil) rfl rfl rfl (by simp) rfl rfl rfl ?_
   refine .un (.on rfl rfl rfl rfl rfl) rfl rfl rfl rfl rfl <| .pick (.no rfl) rfl rfl rfl rfl rfl ?_
   exact .fin () (.of (.cons rfl (.cons rfl (.cons (svB (show (!(Table.ok d b)) = ((!(Table.ok d a) || !(Table.ok d b))) by first | (simp only [g1_4, Bool.true_or, Bool.false_or, Bool.true_and, Bool.false_and, Bool.not_true, Bool.not_false]; done) | simp [g1_4])) .nil))) .nil)
  ·skip
   refine .off rfl rfl rfl rfl rfl rfl rfl <| .off rfl rfl rfl rfl rfl rfl rfl <| .off rfl rfl rfl rfl rfl rfl rfl <| .off rfl rfl rfl rfl rfl rfl rfl <| .pick (.no rfl) rfl rfl rfl rfl rfl ?_
   exact .fin () (.of (.cons rfl (.cons rfl (.cons (svB (show (true) = ((!(Table.ok d a) || !(Table.ok d b))) by first | (simp only [g1_4, Bool.true_or, Bool.false_or, Bool.true_and, Bool.false_and, Bool.not_true, Bool.not_false]; done) | simp [g1_4])) .nil))) .nil)
 intro _
 refine .cond (t := (!(Table.ok d a) || !(Table.ok d b))) rfl (fun c0 => ?_) (fun c0 => ?_)
 ·have c0 := (oT (nT id) (nT id)) c0
  refine .seq <| .rs fun k9 => .as rfl <| .z <| .ret ?_
  exact fin0 (.inr rfl) (.one rfl .nil) (.cons (Gives.nil' (by (rw [Table.joinIn_no c0]; rfl))) .nil) rfl
 ·have c0 := (oF (nF id) (nF id)) c0
  refine .skip <| .seq <| .rs fun k10 => .mv rfl <| .mv rfl <| .c0 (c_l8Join a b (by first | assumption | exact hx.2 | exact hy.2 | exact ⟨(Table.fit (Table.ok_in c0.1) (Table.ok_in c0.2)).1, hx.1⟩ | exact (Table.fit (Table.ok_in c0.1) (Table.ok_in c0.2)).2) (by first | assumption | exact hx.2 | exact hy.2 | exact ⟨(Table.fit (Table.ok_in c0.1) (Table.ok_in c0.2)).1, hx.1⟩ | exact (Table.fit (Table.ok_in c0.1) (Table.ok_in c0.2)).2) (by first | assumption | exact hx.2 | exact hy.2 | exact ⟨(Table.fit (Table.ok_in c0.1) (Table.ok_in c0.2)).1, hx.1⟩ | exact (Table.fit (Table.ok_in c0.1) (Table.ok_in c0.2)).2) (by first | assumption | exact hx.2 | exact hy.2 | exact ⟨(Table.fit (Table.ok_in c0.1) (Table.ok_in c0.2)).1, hx.1⟩ | exact (Table.fit (Table.ok_in c0.1) (Table.ok_in c0.2)).2)) rfl (.dd (.dd .nil)) (.own [19, 0] .nil) rfl <| .as rfl <| .z <| .ret ?_
  have e11 : (zip2 Env.join a b) = (Table.joinIn d a b) := by first | (rw [Table.joinIn_no c0]) | (rw [Table.joinIn_yes c0])
  exact fin1 (.inr rfl) [] [([19, 0], (k10 + 1 + 1, k10 + 1 + 1, .row 43 3 (List.map Env.co43 (Table.joinIn d a b))))] (.one rfl .nil) (.cons (.ref (.head _)) .nil) rfl rfl (.cons (rowE (congrArg (List.map Env.co43) e11)) .nil)
theorem c_TableJoin (d : Decl) (a : List Env) (b : List Env) (hs : ∀ x ∈ Decl.names d, x.size ≤ 9223372036854775807) (hd : d.vars.length ≤ 1048576 ∧ d.flags.length ≤ 1048576 ∧ d.arrays.length ≤ 1048576) (hx : Small 1048576 a) (hy : Small 1048576 b) : Trip Tryz.prog 13 [(true, 3), (false, 1), (false, 1)] (Decl.c27 d ++ [.sl false 43 3 (List.map Env.c43 (a))] ++ [.sl false 43 3 (List.map Env.c43 (b))]) [(false, 1)] [.sl true 43 3 (List.map Env.co43 (Table.joinIn d a b))] [] := by
 refine Trip.of Tryz.func13 (by decide) (c := _) rfl rfl (Nat.le_of_ble_eq_true rfl) rfl (AftOk.nil _) <| .sla (t := 0) 0 rfl rfl fun hs1l => .sla (t := 0) 1 rfl rfl fun hs2l => .sla (t := 0) 2 rfl rfl fun hs3l => .sl (t := 1) rfl fun hs4l => .sl (t := 2) rfl fun hs5l => .seq <| .rs fun k6 => .g (fun _ τ => ⟨_, .box (.no rfl) rfl rfl rfl rfl rfl τ⟩) ?_
 refine .as rfl <| .z <| .seq <| .seq <| .rs fun k7 => .lda t27 rfl (.ptr _ _ _ _ _ rfl) rfl <| .mv rfl <| .mv rfl <| .c0 (c_areTables d a b (by first | assumption | exact hx.2 | exact hy.2 | exact ⟨(Table.fit (Table.ok_in c0.1) c0.2).1, hx.1⟩ | exact (Table.fit (Table.ok_in c0.1) c0.2).2) (by first | assumption | exact hx.2 | exact hy.2 | exact ⟨(Table.fit (Table.ok_in c0.1) c0.2).1, hx.1⟩ | exact (Table.fit (Table.ok_in c0.1) c0.2).2)) rfl (.dd (.dd (.dd (.dd (.dd .nil))))) (.own [10, 0] .nil) rfl ?_
 refine .un rfl <| .z ?_
 refine .cond (t := !(Table.ok d a && Table.isIn d b)) rfl (fun c0 => ?_) (fun c0 => ?_)
 ·have c0 := (nT (aF id id)) c0
  refine .seq <| .rs fun k8 => .as rfl <| .z <| .ret ?_
  exact fin0 (.inr rfl) (.one rfl .nil) (.cons (Gives.nil' (by (rw [Table.joinIn_no2 c0]; rfl))) .nil) rfl
 ·have c0 := (nF (aT id id)) c0
  refine .skip <| .seq <| .rs fun k9 => .mv rfl <| .mv rfl <| .c0 (c_tableWith a b 40 [] [] (fun x0 x1 => Iv.joinOk x0 x1) (fun x0 x1 => c_IvJoin x0 x1) (by first | assumption | exact hx.2 | exact hy.2 | exact ⟨(Table.fit (Table.ok_in c0.1) c0.2).1, hx.1⟩ | exact (Table.fit (Table.ok_in c0.1) c0.2).2) (by first | assumption | exact hx.2 | exact hy.2 | exact ⟨(Table.fit (Table.ok_in c0.1) c0.2).1, hx.1⟩ | exact (Table.fit (Table.ok_in c0.1) c0.2).2) (by first | assumption | exact hx.2 | exact hy.2 | exact ⟨(Table.fit (Table.ok_in c0.1) c0.2).1, hx.1⟩ | exact (Table.fit (Table.ok_in c0.1) c0.2).2) (by first | assumption | exact hx.2 | exact hy.2 | exact ⟨(Table.fit (Table.ok_in c0.1) c0.2).1, hx.1⟩ | exact (Table.fit (Table.ok_in c0.1) c0.2).2)) rfl (.dd (.dd (.dd .nil))) (.own [14, 0] .nil) rfl <| .as rfl <| .z <| .ret ?_
  have e10 : (zip2 (Env.joinW (fun x0 x1 => Iv.joinOk x0 x1)) a b) = (Table.joinIn d a b) := by first | (rw [Table.joinIn_no2 c0]) | (rw [Table.joinIn_yes2 c0])
  exact fin1 (.inr rfl) [] [([14, 0], (k9 + 1 + 1, k9 + 1 + 1, .row 43 3 (List.map Env.co43 (Table.joinIn d a b))))] (.one rfl .nil) (.cons (.ref (.head _)) .nil) rfl rfl (.cons (rowE (congrArg (List.map Env.co43) e10)) .nil)
theorem c_sTableHas (d : Decl) (t : List Env) (s : Store) (hs : ∀ x ∈ Decl.names d, x.size ≤ 9223372036854775807) (hd : d.vars.length ≤ 1048576 ∧ d.flags.length ≤ 1048576 ∧ d.arrays.length ≤ 1048576) (hx : Small 1048576 t) (hst : Store.small s) : Trip Tryz.prog 8 [(true, 3), (false, 1), (true, 3)] (Decl.c27 d ++ [.sl false 43 3 (List.map Env.c43 (t))] ++ Store.c35 s) [(false, 1)] [.v (.bool (Table.hasIn d t s))] [] := by
 refine Trip.of Tryz.func8 (by decide) (c := _) rfl rfl (Nat.le_of_ble_eq_true rfl) rfl (AftOk.nil _) <| .sla (t := 0) 0 rfl rfl fun hs1l => .sla (t := 0) 1 rfl rfl fun hs2l => .sla (t := 0) 2 rfl rfl fun hs3l => .sl (t := 1) rfl fun hs4l => .sla (t := 2) 0 rfl rfl fun hs5l => .sla (t := 2) 1 rfl rfl fun hs6l => .sla (t := 2) 2 rfl rfl fun hs7l => .seq ?_
 refine .rs fun k8 => .g (fun _ τ => ⟨_, .box (.no rfl) rfl rfl rfl rfl rfl τ⟩) <| .g (fun _ τ => ⟨_, .box (.no rfl) rfl rfl rfl rfl rfl τ⟩) <| .as rfl <| .z <| .seq ?_
 refine .regD (X := Unit) (by kernel_rfl) (fun ζ => .of [(6, .one (.d (.v (.bool (((Table.ok d t && Store.ok d s) && Env.has (t.getD ((leafN s.flags).toNat) default) s))))))] []) [⟨[3], some 7, [[3]], []⟩, ⟨[1], some 8, [], []⟩, ⟨[7, 8], some 9, [], []⟩, ⟨[9], some 10, [], []⟩, ⟨[10, 3], some 11, [[3]], []⟩, ⟨[10, 5], some 12, [[5]], []⟩, ⟨[10, 11, 12], some 13, [], []⟩, ⟨[10, 13], some 14, [], []⟩, ⟨[14], some 15, [], []⟩, ⟨[15, 1], some 16, [], []⟩, ⟨[15, 5], some 17, [[5]], []⟩, ⟨[15, 17], some 18, [], []⟩, ⟨[15, 16, 18], some 19, [], []⟩, ⟨[15, 19], some 20, [], []⟩, ⟨[15, 5], some 21, [[5]], []⟩, ⟨[15, 20, 21], some 22, [], []⟩, ⟨[15, 22], some 23, [], []⟩, ⟨[23], some 6, [], []⟩] (by kernel_rfl) (fun k9 => ?_) ?_
 ·skip
  refine .load (.no rfl) rfl t27 rfl rfl (.ptr _ _ _ _ _ rfl) rfl rfl rfl rfl <| .move (.no rfl) rfl rfl rfl rfl ?_
  refine .call (.no rfl) rfl [] [] (c_sTableOk d t (by first | assumption | exact hx.2 | exact (Table.leaf g1_3 (Store.ok_in g1_8)).1 | exact fits_of (Table.leaf g1_3 (Store.ok_in g1_8)).2.2.2.2 (Store.ok_in g1_8) | (have h9 := Table.leaf g1_3 (Store.ok_in g1_8); omega)) (by first | assumption | exact hx.2 | exact (Table.leaf g1_3 (Store.ok_in g1_8)).1 | exact fits_of (Table.leaf g1_3 (Store.ok_in g1_8)).2.2.2.2 (Store.ok_in g1_8) | (have h9 := Table.leaf g1_3 (Store.ok_in g1_8); omega)) (by first | assumption | exact hx.2 | exact (Table.leaf g1_3 (Store.ok_in g1_8)).1 | exact fits_of (Table.leaf g1_3 (Store.ok_in g1_8)).2.2.2.2 (Store.ok_in g1_8) | (have h9 := Table.leaf g1_3 (Store.ok_in g1_8); omega))) rfl rfl rfl rfl rfl (.dd (.dd (.dd (.dd .nil)))) rfl rfl (fun h => absurd rfl h) (.own [9, 0] .nil) (.nil) rfl rfl rfl (by simp) rfl rfl rfl ?_
  refine .moveB (.no rfl) rfl rfl rfl rfl fun b10 g1_3 => ?_
  cases b10
  ·skip
   refine .off rfl rfl rfl rfl rfl rfl rfl <| .off rfl rfl rfl rfl rfl rfl rfl <| .off rfl rfl rfl rfl rfl rfl rfl <| .pick (.no rfl) rfl rfl rfl rfl rfl <| .move (.no rfl) rfl rfl rfl rfl <| .off rfl rfl rfl rfl rfl rfl rfl <| .off rfl rfl rfl rfl rfl rfl rfl <| .off rfl rfl rfl rfl rfl rfl rfl <| .off rfl rfl rfl rfl rfl rfl rfl ?_
   refine .off rfl rfl rfl rfl rfl rfl rfl <| .off rfl rfl rfl rfl rfl rfl rfl <| .off rfl rfl rfl rfl rfl rfl rfl <| .pick (.no rfl) rfl rfl rfl rfl rfl <| .assign (.no rfl) rfl rfl rfl rfl ?_
   exact .fin () (.of (.cons (svB (show (false) = (((Table.ok d t && Store.ok d s) && Env.has (t.getD ((leafN s.flags).toNat) default) s)) by first | (simp only [g1_3, Bool.true_or, Bool.false_or, Bool.true_and, Bool.false_and, Bool.not_true, Bool.not_false]; done) | simp [g1_3])) .nil) .nil)
  ·skip
   refine .load (.on rfl rfl rfl rfl rfl) rfl t27 rfl rfl (.ptr _ _ _ _ _ rfl) rfl rfl rfl rfl <| .load (.on rfl rfl rfl rfl rfl) rfl t35 rfl rfl (.ptr _ _ _ _ _ rfl) rfl rfl rfl rfl ?_
   refine .call (.on rfl rfl rfl rfl rfl) rfl [] [] (c_sStoreOk d s (by first | assumption | exact hx.2 | exact (Table.leaf g1_3 (Store.ok_in g1_8)).1 | exact fits_of (Table.leaf g1_3 (Store.ok_in g1_8)).2.2.2.2 (Store.ok_in g1_8) | (have h9 := Table.leaf g1_3 (Store.ok_in g1_8); omega)) (by first | assumption | exact hx.2 | exact (Table.leaf g1_3 (Store.ok_in g1_8)).1 | exact fits_of (Table.leaf g1_3 (Store.ok_in g1_8)).2.2.2.2 (Store.ok_in g1_8) | (have h9 := Table.leaf g1_3 (Store.ok_in g1_8); omega)) (by first | assumption | exact hx.2 | exact (Table.leaf g1_3 (Store.ok_in g1_8)).1 | exact fits_of (Table.leaf g1_3 (Store.ok_in g1_8)).2.2.2.2 (Store.ok_in g1_8) | (have h9 := Table.leaf g1_3 (Store.ok_in g1_8); omega))) rfl rfl rfl rfl rfl (.dd (.dd (.dd (.dd (.dd (.dd .nil)))))) rfl rfl (fun h => absurd rfl h) (.own [13, 0] .nil) (.nil) rfl rfl rfl (by simp) rfl rfl rfl ?_
   refine .pick (.no rfl) rfl rfl rfl rfl rfl <| .moveB (.no rfl) rfl rfl rfl rfl fun b11 g1_8 => ?_
   cases b11
   ·skip
    refine .off rfl rfl rfl rfl rfl rfl rfl <| .off rfl rfl rfl rfl rfl rfl rfl <| .off rfl rfl rfl rfl rfl rfl rfl <| .off rfl rfl rfl rfl rfl rfl rfl <| .off rfl rfl rfl rfl rfl rfl rfl <| .off rfl rfl rfl rfl rfl rfl rfl <| .off rfl rfl rfl rfl rfl rfl rfl <| .pick (.no rfl) rfl rfl rfl rfl rfl <| .assign (.no rfl) rfl rfl rfl rfl ?_
    exact .fin () (.of (.cons (svB (show (false) = (((Table.ok d t && Store.ok d s) && Env.has (t.getD ((leafN s.flags).toNat) default) s)) by first | (simp only [g1_3, g1_8, Bool.true_or, Bool.false_or, Bool.true_and, Bool.false_and, Bool.not_true, Bool.not_false]; done) | simp [g1_3, g1_8])) .nil) .nil)
   ·skip
    refine .move (.on rfl rfl rfl rfl rfl) rfl rfl rfl rfl <| .load (.on rfl rfl rfl rfl rfl) rfl t35 rfl rfl (.ptr _ _ _ _ _ rfl) rfl rfl rfl rfl <| .call (.on rfl rfl rfl rfl rfl) rfl [] [] (c_l8Leaf s (by first | assumption | exact hx.2 | exact (Table.leaf g1_3 (Store.ok_in g1_8)).1 | exact fits_of (Table.leaf g1_3 (Store.ok_in g1_8)).2.2.2.2 (Store.ok_in g1_8) | (have h9 := Table.leaf g1_3 (Store.ok_in g1_8); omega))) rfl rfl rfl rfl rfl (.dd (.dd (.dd .nil))) rfl rfl (fun h => absurd rfl h) (.own [18, 0] .nil) (.nil) rfl rfl rfl (by simp) rfl rfl rfl <| .indexAddr (.on rfl rfl rfl rfl rfl) rfl ((leafN s.flags).toNat) t28 rfl t43 rfl rfl rfl (.d _ _) rfl rfl (by (have h9 := Table.leaf g1_3 (Store.ok_in g1_8); omega)) (map_get (by have h9 := Table.leaf g1_3 (Store.ok_in g1_8); omega)) rfl rfl <| .load (.on rfl rfl rfl rfl rfl) rfl t43 rfl rfl (.d _) rfl rfl rfl rfl ?_
    refine .load (.on rfl rfl rfl rfl rfl) rfl t35 rfl rfl (.ptr _ _ _ _ _ rfl) rfl rfl rfl rfl <| .call (.on rfl rfl rfl rfl rfl) rfl [] [] (c_l6Has (t.getD ((leafN s.flags).toNat) default) s (by first | assumption | exact hx.2 | exact (Table.leaf g1_3 (Store.ok_in g1_8)).1 | exact fits_of (Table.leaf g1_3 (Store.ok_in g1_8)).2.2.2.2 (Store.ok_in g1_8) | (have h9 := Table.leaf g1_3 (Store.ok_in g1_8); omega)) (by first | assumption | exact hx.2 | exact (Table.leaf g1_3 (Store.ok_in g1_8)).1 | exact fits_of (Table.leaf g1_3 (Store.ok_in g1_8)).2.2.2.2 (Store.ok_in g1_8) | (have h9 := Table.leaf g1_3 (Store.ok_in g1_8); omega))) rfl rfl rfl rfl rfl (.dd (.dd (.dd (.dd (.dd (.dd .nil)))))) rfl rfl (fun h => absurd rfl h) (.own [22, 0] .nil) (.nil) rfl rfl rfl (by simp) rfl rfl rfl <| .pick (.no rfl) rfl rfl rfl rfl rfl <| .assign (.no rfl) rfl rfl rfl rfl ?_
    exact .fin () (.of (.cons (svB (show (Env.has (t.getD ((leafN s.flags).toNat) default) s) = (((Table.ok d t && Store.ok d s) && Env.has (t.getD ((leafN s.flags).toNat) default) s)) by first | (simp only [g1_3, g1_8, Bool.true_or, Bool.false_or, Bool.true_and, Bool.false_and, Bool.not_true, Bool.not_false]; done) | simp [g1_3, g1_8])) .nil) .nil)
 intro _
 refine .ret ?_
 exact fin0 (.inr rfl) (.one (svB (show (((Table.ok d t && Store.ok d s) && Env.has (t.getD ((leafN s.flags).toNat) default) s)) = (Table.hasIn d t s) by exact Table.hasIn_spec)) .nil) (.dd .nil) rfl
theorem c_TableHas (d : Decl) (t : List Env) (s : Store) (hs : ∀ x ∈ Decl.names d, x.size ≤ 9223372036854775807) (hd : d.vars.length ≤ 1048576 ∧ d.flags.length ≤ 1048576 ∧ d.arrays.length ≤ 1048576) (hx : Small 1048576 t) (hst : Store.small s) : Trip Tryz.prog 7 [(true, 3), (false, 1), (true, 3)] (Decl.c27 d ++ [.sl false 43 3 (List.map Env.c43 (t))] ++ Store.c35 s) [(false, 1)] [.v (.bool (Table.hasIn d t s))] [] := by
 refine Trip.of Tryz.func7 (by decide) (c := _) rfl rfl (Nat.le_of_ble_eq_true rfl) rfl (AftOk.nil _) <| .sla (t := 0) 0 rfl rfl fun hs1l => .sla (t := 0) 1 rfl rfl fun hs2l => .sla (t := 0) 2 rfl rfl fun hs3l => .sl (t := 1) rfl fun hs4l => .sla (t := 2) 0 rfl rfl fun hs5l => .sla (t := 2) 1 rfl rfl fun hs6l => .sla (t := 2) 2 rfl rfl fun hs7l => .seq ?_
 refine .rs fun k8 => .g (fun _ τ => ⟨_, .box (.no rfl) rfl rfl rfl rfl rfl τ⟩) <| .g (fun _ τ => ⟨_, .box (.no rfl) rfl rfl rfl rfl rfl τ⟩) <| .as rfl <| .z <| .seq ?_
 refine .regD (X := Unit) (by kernel_rfl) (fun ζ => .of [(6, .one (.d (.v (.bool (((Table.ok d t && Store.okIn d s) && Env.has (t.getD ((leafN s.flags).toNat) default) s))))))] []) [⟨[3], some 7, [[3]], []⟩, ⟨[1], some 8, [], []⟩, ⟨[7, 8], some 9, [], []⟩, ⟨[9], some 10, [], []⟩, ⟨[10, 3], some 11, [[3]], []⟩, ⟨[10, 5], some 12, [[5]], []⟩, ⟨[10, 11, 12], some 13, [], []⟩, ⟨[10, 13], some 14, [], []⟩, ⟨[14], some 15, [], []⟩, ⟨[15, 1], some 16, [], []⟩, ⟨[15, 5], some 17, [], []⟩, ⟨[15, 17], some 18, [[5]], []⟩, ⟨[15, 18], some 19, [], []⟩, ⟨[15, 16, 19], some 20, [], []⟩, ⟨[15, 20], some 21, [], []⟩, ⟨[15, 5], some 22, [[5]], []⟩, ⟨[15, 21, 22], some 23, [], []⟩, ⟨[15, 23], some 24, [], []⟩, ⟨[24], some 6, [], []⟩] (by kernel_rfl) (fun k9 => ?_) ?_
 ·skip
  refine .load (.no rfl) rfl t27 rfl rfl (.ptr _ _ _ _ _ rfl) rfl rfl rfl rfl <| .move (.no rfl) rfl rfl rfl rfl <| .call (.no rfl) rfl [] [] (c_TableOk d t (by first | assumption | exact hx.2 | exact (Table.leaf g1_3 g1_8).1 | exact fits_of (Table.leaf g1_3 g1_8).2.2.2.2 g1_8 | (have h9 := Table.leaf g1_3 g1_8; omega)) (by first | assumption | exact hx.2 | exact (Table.leaf g1_3 g1_8).1 | exact fits_of (Table.leaf g1_3 g1_8).2.2.2.2 g1_8 | (have h9 := Table.leaf g1_3 g1_8; omega))) rfl rfl rfl rfl rfl (.dd (.dd (.dd (.dd .nil)))) rfl rfl (fun h => absurd rfl h) (.own [9, 0] .nil) (.nil) rfl rfl rfl (by simp) rfl rfl rfl <| .moveB (.no rfl) rfl rfl rfl rfl fun b10 g1_3 => ?_
  cases b10
  ·skip
   refine .off rfl rfl rfl rfl rfl rfl rfl <| .off rfl rfl rfl rfl rfl rfl rfl <| .off rfl rfl rfl rfl rfl rfl rfl <| .pick (.no rfl) rfl rfl rfl rfl rfl <| .move (.no rfl) rfl rfl rfl rfl <| .off rfl rfl rfl rfl rfl rfl rfl <| .off rfl rfl rfl rfl rfl rfl rfl <| .off rfl rfl rfl rfl rfl rfl rfl <| .off rfl rfl rfl rfl rfl rfl rfl ?_
   refine .off rfl rfl rfl rfl rfl rfl rfl <| .off rfl rfl rfl rfl rfl rfl rfl <| .off rfl rfl rfl rfl rfl rfl rfl <| .off rfl rfl rfl rfl rfl rfl rfl <| .pick (.no rfl) rfl rfl rfl rfl rfl <| .assign (.no rfl) rfl rfl rfl rfl ?_
   exact .fin () (.of (.cons (svB (show (false) = (((Table.ok d t && Store.okIn d s) && Env.has (t.getD ((leafN s.flags).toNat) default) s)) by first | (simp only [g1_3, Bool.true_or, Bool.false_or, Bool.true_and, Bool.false_and, Bool.not_true, Bool.not_false]; done) | simp [g1_3])) .nil) .nil)
  ·skip
   refine .load (.on rfl rfl rfl rfl rfl) rfl t27 rfl rfl (.ptr _ _ _ _ _ rfl) rfl rfl rfl rfl <| .load (.on rfl rfl rfl rfl rfl) rfl t35 rfl rfl (.ptr _ _ _ _ _ rfl) rfl rfl rfl rfl <| .call (.on rfl rfl rfl rfl rfl) rfl [] [] (c_isStore d s) rfl rfl rfl rfl rfl (.dd (.dd (.dd (.dd (.dd (.dd .nil)))))) rfl rfl (fun h => absurd rfl h) (.own [13, 0] .nil) (.nil) rfl rfl rfl (by simp) rfl rfl rfl <| .pick (.no rfl) rfl rfl rfl rfl rfl <| .moveB (.no rfl) rfl rfl rfl rfl fun b11 g1_8 => ?_
   cases b11
   ·skip
    refine .off rfl rfl rfl rfl rfl rfl rfl <| .off rfl rfl rfl rfl rfl rfl rfl <| .off rfl rfl rfl rfl rfl rfl rfl <| .off rfl rfl rfl rfl rfl rfl rfl <| .off rfl rfl rfl rfl rfl rfl rfl <| .off rfl rfl rfl rfl rfl rfl rfl <| .off rfl rfl rfl rfl rfl rfl rfl <| .off rfl rfl rfl rfl rfl rfl rfl <| .pick (.no rfl) rfl rfl rfl rfl rfl ?_
    refine .assign (.no rfl) rfl rfl rfl rfl ?_
    exact .fin () (.of (.cons (svB (show (false) = (((Table.ok d t && Store.okIn d s) && Env.has (t.getD ((leafN s.flags).toNat) default) s)) by first | (simp only [g1_3, g1_8, Bool.true_or, Bool.false_or, Bool.true_and, Bool.false_and, Bool.not_true, Bool.not_false]; done) | simp [g1_3, g1_8])) .nil) .nil)
   ·skip
    refine .move (.on rfl rfl rfl rfl rfl) rfl rfl rfl rfl <| .fieldAddrP (.on rfl rfl rfl rfl rfl) rfl t35 rfl rfl t32 rfl rfl rfl rfl <| .load (.on rfl rfl rfl rfl rfl) rfl t32 rfl rfl (.ptr _ _ _ _ _ rfl) rfl rfl rfl rfl <| .call (.on rfl rfl rfl rfl rfl) rfl [] [] (c_leafOf s.flags (by first | assumption | exact hx.2 | exact (Table.leaf g1_3 g1_8).1 | exact fits_of (Table.leaf g1_3 g1_8).2.2.2.2 g1_8 | (have h9 := Table.leaf g1_3 g1_8; omega))) rfl rfl rfl rfl rfl (.dd .nil) rfl rfl (fun h => absurd rfl h) (.own [19, 0] .nil) (.nil) rfl rfl rfl (by simp) rfl rfl rfl <| .indexAddr (.on rfl rfl rfl rfl rfl) rfl ((leafN s.flags).toNat) t28 rfl t43 rfl rfl rfl (.d _ _) rfl rfl (by (have h9 := Table.leaf g1_3 g1_8; omega)) (map_get (by have h9 := Table.leaf g1_3 g1_8; omega)) rfl rfl <| .load (.on rfl rfl rfl rfl rfl) rfl t43 rfl rfl (.d _) rfl rfl rfl rfl ?_
    refine .load (.on rfl rfl rfl rfl rfl) rfl t35 rfl rfl (.ptr _ _ _ _ _ rfl) rfl rfl rfl rfl <| .call (.on rfl rfl rfl rfl rfl) rfl [] [] (c_hasStore (t.getD ((leafN s.flags).toNat) default) s (by first | assumption | exact hx.2 | exact (Table.leaf g1_3 g1_8).1 | exact fits_of (Table.leaf g1_3 g1_8).2.2.2.2 g1_8 | (have h9 := Table.leaf g1_3 g1_8; omega))) rfl rfl rfl rfl rfl (.dd (.dd (.dd (.dd (.dd (.dd .nil)))))) rfl rfl (fun h => absurd rfl h) (.own [23, 0] .nil) (.nil) rfl rfl rfl (by simp) rfl rfl rfl <| .pick (.no rfl) rfl rfl rfl rfl rfl <| .assign (.no rfl) rfl rfl rfl rfl ?_
    exact .fin () (.of (.cons (svB (show (Env.has (t.getD ((leafN s.flags).toNat) default) s) = (((Table.ok d t && Store.okIn d s) && Env.has (t.getD ((leafN s.flags).toNat) default) s)) by first | (simp only [g1_3, g1_8, Bool.true_or, Bool.false_or, Bool.true_and, Bool.false_and, Bool.not_true, Bool.not_false]; done) | simp [g1_3, g1_8])) .nil) .nil)
 intro _
 refine .ret ?_
 exact fin0 (.inr rfl) (.one (svB (show (((Table.ok d t && Store.okIn d s) && Env.has (t.getD ((leafN s.flags).toNat) default) s)) = (Table.hasIn d t s) by rfl)) .nil) (.dd .nil) rfl
end Go.Proofs

namespace Go.Proofs
open Go Go.Proofs Go.Ev

def u8c (x : Int) : List D := [.v (.int .u8 x)]
theorem u8c_e (x : Int) : (u8c x).map D.erase = u8c x := by simp [u8c, D.erase_v]
theorem u8c_o (x : Int) : ∀ d ∈ u8c x, Owned d := by simp [u8c, Owned.v]
def i5 : TI := ⟨.int .u8, 1, 1, [.int .u8 0]⟩
theorem t5 : TyOk Tryz.prog 5 i5 := ⟨Tryz.underlying5, by kernel_rfl⟩
theorem z5 : ZOk Tryz.prog 5 i5 := ⟨t5, rfl⟩
def i22 : TI := ⟨.sl 5, 1, 24, [.slice none 0 0]⟩
theorem t22 : TyOk Tryz.prog 22 i22 := ⟨Tryz.underlying22, by kernel_rfl⟩
theorem z22 : ZOk Tryz.prog 22 i22 := ⟨t22, rfl⟩
def i76 : TI := ⟨.st [(0, 22), (1, 3)], 2, 32, [.slice none 0 0, .int .i64 0]⟩
theorem t76 : TyOk Tryz.prog 76 i76 := ⟨⟨_, Tryz.underlying76, rfl⟩, by kernel_rfl⟩
theorem z76 : ZOk Tryz.prog 76 i76 := ⟨t76, rfl⟩
theorem p76 : Places Tryz.prog [(0, 22), (1, 3)] [(0, 1), (1, 1)] := by unfold Places; kernel_rfl
def i102 : TI := ⟨.int .u64, 1, 8, [.int .u64 0]⟩
theorem t102 : TyOk Tryz.prog 102 i102 := ⟨Tryz.underlying102, by kernel_rfl⟩
theorem z102 : ZOk Tryz.prog 102 i102 := ⟨t102, rfl⟩
theorem c_next (r : Rdr) (hr : Rdr.ok r.b r.p) : Trip Tryz.prog 76 [(false, 1)] ([.pt true [.sl false 5 1 (List.map u8c (r.b)), .v (.int .i64 (r.p))]]) [(false, 1)] [.v (.int .i64 (nextV r.b r.p))] [(0, .pt true [.sl false 5 1 (List.map u8c (r.b)), .v (.int .i64 (nextP r.b r.p))])] := by
 refine Trip.of Tryz.func76 (by decide) (c := _) rfl rfl (Nat.le_of_ble_eq_true rfl) rfl (AftOk.pt rfl (AftOk.nil _)) <| .seq <| .rs fun k1 => .as rfl <| .z <| .seq <| .seq ?_
 refine .regD (X := Unit) (by kernel_rfl) (fun ζ => .of [(0, .one (.ptr [0, 0, 0] (0) 0)), (12, .one (.d (.v (.bool (decide (r.p ≥ (r.b.length : Int)))))))] [([0, 0, 0], (0, 0, .box [.d (.sl false 5 1 (List.map u8c (r.b))), .d (.v (.int .i64 (r.p)))]))]) [⟨[0], some 3, [], []⟩, ⟨[3], some 4, [], []⟩, ⟨[4], some 5, [], []⟩, ⟨[5], some 6, [[0, 0, 0]], []⟩, ⟨[0], some 7, [], []⟩, ⟨[7], some 8, [], []⟩, ⟨[8], some 9, [], []⟩, ⟨[9], some 10, [[0, 0, 0]], []⟩, ⟨[10], some 11, [], []⟩, ⟨[6, 11], some 12, [], []⟩] (by kernel_rfl) (fun k2 => ?_) ?_
 ·skip
  refine .move (.no rfl) rfl rfl rfl rfl <| .nilCheck (.no rfl) rfl rfl rfl (ptr_some _ _ _) rfl <| .fieldAddrP (.no rfl) rfl t76 rfl rfl t3 rfl rfl rfl rfl <| .load (.no rfl) rfl t3 rfl rfl (.ptr _ _ _ _ _ rfl) rfl rfl rfl rfl <| .move (.no rfl) rfl rfl rfl rfl <| .nilCheck (.no rfl) rfl rfl rfl (ptr_some _ _ _) rfl <| .fieldAddrP (.no rfl) rfl t76 rfl rfl t22 rfl rfl rfl rfl <| .load (.no rfl) rfl t22 rfl rfl (.ptr _ _ _ _ _ rfl) rfl rfl rfl rfl <| .len (.no rfl) rfl (z := (r.b.length : Int)) t22 rfl rfl rfl (.d _ _) (map_len _ _) rfl ?_
  refine .bin (.no rfl) rfl rfl rfl rfl rfl rfl ?_
  exact .fin () (.of (.r rfl) (.r rfl))
 intro _
 refine .cond (t := decide (r.p ≥ (r.b.length : Int))) rfl (fun c0 => ?_) (fun c0 => ?_)
 ·have c0 := of_decide_eq_true c0
  refine .seq <| .rs fun k3 => .as rfl <| .z <| .ret ?_
  have e5 : (r.p) = (nextP r.b r.p) := by (first | exact (nextV_end c0).symm | exact (nextP_end c0).symm)
  exact fin1 (.inr rfl) [] [([0, 0, 0], (0, 0, .box [.d (.sl false 5 1 (List.map u8c (r.b))), .d (.v (.int .i64 (nextP r.b r.p)))]))] (.one (svI (show (0) = (nextV r.b r.p) by (first | exact (nextV_end c0).symm | exact (nextP_end c0).symm))) .nil) (.dd (.cons (.ptr (.head _) (.dd (.dd .nil)) (by simp)) .nil)) rfl rfl (.cons (eq1 (fun z1 => some (0, 0, O.box [.d (.sl false 5 1 (List.map u8c (r.b))), .d (.v (.int .i64 (z1)))])) e5) .nil)
 ·have c0 := of_decide_eq_false c0
  refine .skip <| .seq <| .rs fun k6 => .mv rfl <| .g (fun _ τ => ⟨_, .nilCheck (.no rfl) rfl rfl rfl (ptr_some _ _ _) rfl τ⟩) <| .fp t76 t3 rfl <| .ld t3 rfl (.ptr _ _ _ _ _ rfl) rfl <| .g (fun _ τ => ⟨_, .binN (.no rfl) rfl (show IntKind.wrap .i64 (r.p + 1) = r.p + 1 by (have h9 := hr.2.1; have h8 := hr.1; have h7 := hr.2.2.1; exact wrap_le (by omega) (by omega))) rfl rfl rfl rfl rfl τ⟩) <| .g (fun _ τ => ⟨_, .nilCheck (.no rfl) rfl rfl rfl (ptr_some _ _ _) rfl τ⟩) ?_
  refine .fp t76 t3 rfl <| .g (fun _ τ => ⟨_, .store (.no rfl) rfl t3 rfl rfl rfl rfl rfl rfl rfl rfl rfl τ⟩) <| .z <| .seq ?_
  refine .regD (X := Unit) (by kernel_rfl) (fun ζ => .of [(0, .one (.ptr [0, 0, 0] (0) 0)), (2, .one (.d (.v (.int .i64 (r.b.getD ((r.p).toNat) default)))))] [([0, 0, 0], (0, k6 + 1 + 1 + 1 + 1 + 1 + 1 + 1, .box [.d (.sl false 5 1 (List.map u8c (r.b))), .d (.v (.int .i64 (r.p + 1)))]))]) [⟨[0], some 20, [], []⟩, ⟨[20], some 21, [], []⟩, ⟨[21], some 22, [], []⟩, ⟨[22], some 23, [[0, 0, 0]], []⟩, ⟨[0], some 24, [], []⟩, ⟨[24], some 25, [], []⟩, ⟨[25], some 26, [], []⟩, ⟨[26], some 27, [[0, 0, 0]], []⟩, ⟨[27], some 28, [], []⟩, ⟨[23, 28], some 29, [], []⟩, ⟨[29], some 30, [], []⟩, ⟨[30], some 31, [], []⟩, ⟨[31], some 2, [], []⟩] (by kernel_rfl) (fun k7 => ?_) ?_
  ·skip
   refine .move (.no rfl) rfl rfl rfl rfl <| .nilCheck (.no rfl) rfl rfl rfl (ptr_some _ _ _) rfl <| .fieldAddrP (.no rfl) rfl t76 rfl rfl t22 rfl rfl rfl rfl <| .load (.no rfl) rfl t22 rfl rfl (.ptr _ _ _ _ _ rfl) rfl rfl rfl rfl <| .move (.no rfl) rfl rfl rfl rfl <| .nilCheck (.no rfl) rfl rfl rfl (ptr_some _ _ _) rfl <| .fieldAddrP (.no rfl) rfl t76 rfl rfl t3 rfl rfl rfl rfl <| .load (.no rfl) rfl t3 rfl rfl (.ptr _ _ _ _ _ rfl) rfl rfl rfl rfl <| .binN (.no rfl) rfl (show IntKind.wrap .i64 ((r.p + 1) - 1) = r.p by (have h9 := hr.2.1; have h8 := hr.1; have h7 := hr.2.2.1; rw [wrap_le (by omega) (by omega)]; omega)) rfl rfl rfl rfl rfl ?_
   refine .indexAddr (.no rfl) rfl ((r.p).toNat) t22 rfl t5 rfl rfl rfl (.d _ _) rfl rfl (by (have h8 := hr.1; omega)) (map_get (by have h8 := hr.1; omega)) rfl rfl <| .load (.no rfl) rfl t5 rfl rfl (.d _) rfl rfl rfl rfl <| .conv (.no rfl) rfl (z' := r.b.getD ((r.p).toNat) default) t5 t3 rfl rfl rfl rfl (by have h8 := hr.1; have h9 := hr.2.2.2 _ (getD_mem (a := r.b) (j := r.p.toNat) (by omega)); exact wrap_le (by omega) (by omega)) rfl <| .assign (.no rfl) rfl rfl rfl rfl ?_
   exact .fin () (.of (.r rfl) (.r rfl))
  intro _
  refine .ret ?_
  have e9 : (r.p + 1) = (nextP r.b r.p) := by (first | exact (nextV_more c0).symm | exact (nextP_more c0).symm)
  exact fin1 (.inr rfl) [] [([0, 0, 0], (0, k6 + 1 + 1 + 1 + 1 + 1 + 1 + 1, .box [.d (.sl false 5 1 (List.map u8c (r.b))), .d (.v (.int .i64 (nextP r.b r.p)))]))] (.one (svI (show (r.b.getD ((r.p).toNat) default) = (nextV r.b r.p) by (first | exact (nextV_more c0).symm | exact (nextP_more c0).symm))) .nil) (.dd (.cons (.ptr (.head _) (.dd (.dd .nil)) (by simp)) .nil)) rfl rfl (.cons (eq1 (fun z1 => some (0, k6 + 1 + 1 + 1 + 1 + 1 + 1 + 1, O.box [.d (.sl false 5 1 (List.map u8c (r.b))), .d (.v (.int .i64 (z1)))])) e9) .nil)
theorem c_below (r : Rdr) (n : Int) (hr : Rdr.ok r.b r.p) : Trip Tryz.prog 44 [(false, 1), (false, 1)] ([.pt true [.sl false 5 1 (List.map u8c (r.b)), .v (.int .i64 (r.p))]] ++ [.v (.int .i64 (n))]) [(false, 1)] [.v (.int .i64 (belowV r.b r.p n))] [(0, .pt true [.sl false 5 1 (List.map u8c (r.b)), .v (.int .i64 (belowP r.b r.p n))])] := by
 refine Trip.of Tryz.func44 (by decide) (c := _) rfl rfl (Nat.le_of_ble_eq_true rfl) rfl (AftOk.pt rfl (AftOk.nil _)) <| .seq <| .rs fun k1 => .as rfl <| .z <| .seq <| .seq <| .rs fun k2 => .mv rfl ?_
 refine .bi rfl <| .z ?_
 refine .cond (t := decide (n ≤ 1)) rfl (fun c0 => ?_) (fun c0 => ?_)
 ·have c0 := of_decide_eq_true c0
  refine .seq <| .rs fun k3 => .as rfl <| .z <| .ret ?_
  have e5 : (r.p) = (belowP r.b r.p n) := by (first | exact (belowV_one c0).symm | exact (belowP_one c0).symm)
  exact fin1 (.inr rfl) [] [([0, 0, 0], (0, 0, .box [.d (.sl false 5 1 (List.map u8c (r.b))), .d (.v (.int .i64 (belowP r.b r.p n)))]))] (.one (svI (show (0) = (belowV r.b r.p n) by (first | exact (belowV_one c0).symm | exact (belowP_one c0).symm))) .nil) (.dd (.cons (.ptr (.head _) (.dd (.dd .nil)) (by simp)) .nil)) rfl rfl (.cons (eq1 (fun z1 => some (0, 0, O.box [.d (.sl false 5 1 (List.map u8c (r.b))), .d (.v (.int .i64 (z1)))])) e5) .nil)
 ·have c0 := of_decide_eq_false c0
  refine .skip <| .seq <| .seq <| .rs fun k6 => .mv rfl <| .bi rfl <| .z ?_
  refine .cond (t := decide (n ≤ 256)) rfl (fun c1 => ?_) (fun c1 => ?_)
  ·have c1 := of_decide_eq_true c1
   refine .seq <| .rs fun k7 => .mv rfl <| .g (fun _ τ => ⟨_, .call (.no rfl) rfl [] [([0, 0, 0], (0, 0, .box [.d (.sl false 5 1 (List.map u8c (r.b))), .d (.v (.int .i64 (r.p)))]))] (c_next r hr) rfl rfl rfl rfl rfl (.cons (.ptr (.head _) (.dd (.dd .nil)) (by simp)) .nil) rfl rfl (fun h => absurd rfl h) (.own [11, 0] .nil) (.ptr rfl (.head _) (by simp) .nil) rfl rfl rfl (AllH.get (.r rfl)) rfl rfl rfl τ⟩) <| .mv rfl <| .g (fun _ τ => ⟨_, .quoRem (.no rfl) rfl (.inr ⟨rfl, rfl⟩) rfl rfl rfl (ne_beq (by omega)) rfl τ⟩) <| .as rfl <| .z <| .ret ?_
   have e9 : (nextP r.b r.p) = (belowP r.b r.p n) := by (first | exact (belowV_more c0 c1).symm | exact (belowP_more c0 c1).symm)
   exact fin1 (.inr rfl) [] [([0, 0, 0], (0, k7 + 1, .box [.d (.sl false 5 1 (List.map u8c (r.b))), .d (.v (.int .i64 (belowP r.b r.p n)))]))] (.one (svI (show (Int.tmod (nextV r.b r.p) n) = (belowV r.b r.p n) by (first | exact (belowV_more c0 c1).symm | exact (belowP_more c0 c1).symm))) .nil) (.dd (.cons (.ptr (.head _) (.dd (.dd .nil)) (by simp)) .nil)) rfl rfl (.cons (eq1 (fun z1 => some (0, k7 + 1, O.box [.d (.sl false 5 1 (List.map u8c (r.b))), .d (.v (.int .i64 (z1)))])) e9) .nil)
  ·have c1 := of_decide_eq_false c1
   refine .skip <| .seq <| .rs fun k10 => .mv rfl <| .g (fun _ τ => ⟨_, .call (.no rfl) rfl [] [([0, 0, 0], (0, 0, .box [.d (.sl false 5 1 (List.map u8c (r.b))), .d (.v (.int .i64 (r.p)))]))] (c_next r hr) rfl rfl rfl rfl rfl (.cons (.ptr (.head _) (.dd (.dd .nil)) (by simp)) .nil) rfl rfl (fun h => absurd rfl h) (.own [15, 0] .nil) (.ptr rfl (.head _) (by simp) .nil) rfl rfl rfl (AllH.get (.r rfl)) rfl rfl rfl τ⟩) <| .bi rfl <| .as rfl <| .z <| .seq ?_
   refine .rs fun k11 => .mv rfl <| .mv rfl <| .g (fun _ τ => ⟨_, .call (.no rfl) rfl [] [([0, 0, 0], (0, k10 + 1, .box [.d (.sl false 5 1 (List.map u8c (r.b))), .d (.v (.int .i64 (nextP r.b r.p)))]))] (c_next (Rdr.mk r.b (nextP r.b r.p)) (Rdr.ok.next hr)) rfl rfl rfl rfl rfl (.cons (.ptr (.head _) (.dd (.dd .nil)) (by simp)) .nil) rfl rfl (fun h => absurd rfl h) (.own [19, 0] .nil) (.ptr rfl (.head _) (by simp) .nil) rfl rfl rfl (AllH.get (.r rfl)) rfl rfl rfl τ⟩) <| .bi rfl <| .as rfl <| .z <| .seq <| .rs fun k12 => ?_
   refine .mv rfl <| .mv rfl <| .g (fun _ τ => ⟨_, .quoRem (.no rfl) rfl (.inr ⟨rfl, rfl⟩) rfl rfl rfl (ne_beq (by omega)) rfl τ⟩) <| .as rfl <| .z <| .ret ?_
   have e14 : (nextP r.b (nextP r.b r.p)) = (belowP r.b r.p n) := by (first | exact (belowV_two' hr c0 c1).symm | exact (belowP_two c0 c1).symm)
   exact fin1 (.inr rfl) [] [([0, 0, 0], (0, k11 + 1 + 1, .box [.d (.sl false 5 1 (List.map u8c (r.b))), .d (.v (.int .i64 (belowP r.b r.p n)))]))] (.one (svI (show (Int.tmod (IntKind.wrap .i64 ((IntKind.wrap .i64 ((nextV r.b r.p) * 256)) + (nextV r.b (nextP r.b r.p)))) n) = (belowV r.b r.p n) by (first | exact (belowV_two' hr c0 c1).symm | exact (belowP_two c0 c1).symm))) .nil) (.dd (.cons (.ptr (.head _) (.dd (.dd .nil)) (by simp)) .nil)) rfl rfl (.cons (eq1 (fun z1 => some (0, k11 + 1 + 1, O.box [.d (.sl false 5 1 (List.map u8c (r.b))), .d (.v (.int .i64 (z1)))])) e14) .nil)
theorem c_once (r : Rdr) (n : Int) (hr : Rdr.ok r.b r.p) (hn : 0 ≤ n ∧ n ≤ 1048576) : Trip Tryz.prog 21 [(false, 1), (false, 1)] ([.pt true [.sl false 5 1 (List.map u8c (r.b)), .v (.int .i64 (r.p))]] ++ [.v (.int .i64 (n))]) [(false, 1)] [.v (.bool (onceV r.b r.p n))] [(0, .pt true [.sl false 5 1 (List.map u8c (r.b)), .v (.int .i64 (belowP r.b r.p n))])] := by
 refine Trip.of Tryz.func21 (by decide) (c := _) rfl rfl (Nat.le_of_ble_eq_true rfl) rfl (AftOk.pt rfl (AftOk.nil _)) <| .seq <| .rs fun k1 => .as rfl <| .z <| .seq <| .rs fun k2 => .mv rfl <| .mv rfl ?_
 refine .g (fun _ τ => ⟨_, .call (.no rfl) rfl [] [([0, 0, 0], (0, 0, .box [.d (.sl false 5 1 (List.map u8c (r.b))), .d (.v (.int .i64 (r.p)))]))] (c_below r n hr) rfl rfl rfl rfl rfl (.cons (.ptr (.head _) (.dd (.dd .nil)) (by simp)) (.dd .nil)) rfl rfl (fun h => absurd rfl h) (.own [7, 0] .nil) (.ptr rfl (.head _) (by simp) .nil) rfl rfl rfl (AllH.get (.r rfl)) rfl rfl rfl τ⟩) <| .mv rfl <| .bi rfl <| .bi rfl <| .as rfl <| .z <| .ret ?_
 exact fin1 (.inr rfl) [] [([0, 0, 0], (0, k2 + 1 + 1, .box [.d (.sl false 5 1 (List.map u8c (r.b))), .d (.v (.int .i64 (belowP r.b r.p n)))]))] (.one (svB (show ((belowV r.b r.p n) == (IntKind.wrap .i64 (n - 1))) = (onceV r.b r.p n) by (rw [onceV_eq hn]))) .nil) (.dd (.cons (.ptr (.head _) (.dd (.dd .nil)) (by simp)) .nil)) rfl rfl (.r rfl)
theorem c_word (r : Rdr) (hr : Rdr.ok r.b r.p) : Trip Tryz.prog 80 [(false, 1)] ([.pt true [.sl false 5 1 (List.map u8c (r.b)), .v (.int .i64 (r.p))]]) [(false, 1)] [.v (.int .u64 (wordV r.b r.p))] [(0, .pt true [.sl false 5 1 (List.map u8c (r.b)), .v (.int .i64 (wordP r.b r.p))])] := by
 refine Trip.of Tryz.func80 (by decide) (c := _) rfl rfl (Nat.le_of_ble_eq_true rfl) rfl (AftOk.pt rfl (AftOk.nil _)) <| .seq <| .rs fun k1 => .as rfl <| .z <| .seq <| .rs fun k2 => .as rfl <| .z ?_
 refine .seq <| .seq <| .rs fun k3 => .as rfl <| .z <| .block ?_
 refine .loop (X := Nat × Nat) (fun ζ => .of [(0, .one (.ptr [0, 0, 0] (0) 0)), (3, .one (.d (.v (.int .u64 (wordTo r.b r.p ζ.1))))), (4, .one (.d (.v (.int .i64 ((ζ.1 : Int))))))] [([0, 0, 0], (0, ζ.2, .box [.d (.sl false 5 1 (List.map u8c (r.b))), .d (.v (.int .i64 (nextsP r.b r.p ζ.1)))]))]) (fun ζ => ζ.1 ≤ 8) (fun ζ => 8 - ζ.1) ?_ ?_
 ·skip
  exact .here (0, 0) (.of (.cons rfl (.cons (svI (show (0) = (wordTo r.b r.p 0) by first | with_reducible exact wordTo_succ _ | rfl | omega | exact wrap_le (by omega) (by omega))) (.cons (svI (show (0) = ((0 : Int)) by first | with_reducible exact wordTo_succ _ | rfl | omega | exact wrap_le (by omega) (by omega))) .nil))) (.cons (eq1 (fun z1 => some (0, 0, O.box [.d (.sl false 5 1 (List.map u8c (r.b))), .d (.v (.int .i64 (z1)))])) (show (r.p) = (nextsP r.b r.p 0) by first | with_reducible exact wordTo_succ _ | rfl | omega | exact wrap_le (by omega) (by omega))) .nil)) (show 0 ≤ 8 by omega)
 ·rintro ⟨j, q4⟩ hI
  have hI : j ≤ 8 := hI
  dsimp only
  refine .seq <| .seq <| .rs fun k5 => .mv rfl <| .bi rfl <| .z ?_
  refine .cond (t := decide ((j : Int) < 8)) rfl (fun c0 => ?_) (fun c0 => ?_)
  ·have c0 := of_decide_eq_true c0
   refine .skip <| .seq <| .block <| .rs fun k6 => .mv rfl <| .g (fun _ τ => ⟨_, .shl (.no rfl) rfl rfl rfl rfl (by omega) rfl rfl τ⟩) <| .mv rfl <| .g (fun _ τ => ⟨_, .call (.no rfl) rfl [] [([0, 0, 0], (0, q4, .box [.d (.sl false 5 1 (List.map u8c (r.b))), .d (.v (.int .i64 (nextsP r.b r.p j)))]))] (c_next (Rdr.mk r.b (nextsP r.b r.p j)) (Rdr.ok.nexts hr j)) rfl rfl rfl rfl rfl (.cons (.ptr (.head _) (.dd (.dd .nil)) (by simp)) .nil) rfl rfl (fun h => absurd rfl h) (.own [12, 0] .nil) (.ptr rfl (.head _) (by simp) .nil) rfl rfl rfl (AllH.get (.r rfl)) rfl rfl rfl τ⟩) <| .g (fun _ τ => ⟨_, .conv (.no rfl) rfl t3 t102 rfl rfl rfl rfl rfl rfl τ⟩) ?_
   refine .bi rfl <| .as rfl <| .z <| .rs fun k7 => .mv rfl <| .bi rfl <| .as rfl <| .z ?_
   exact .here ((j + 1), (k6 + 1 + 1 + 1)) (.of (.cons rfl (.cons (svI (show (IntKind.wrap .u64 ((BitVec.ofInt (IntKind.bits .u64) (IntKind.wrap .u64 ((wordTo r.b r.p j) * 2 ^ (min ((8 : Int)).toNat (IntKind.bits .u64)))) ||| BitVec.ofInt (IntKind.bits .u64) (IntKind.wrap .u64 (nextV r.b (nextsP r.b r.p j)))).toNat : Int)) = (wordTo r.b r.p (j + 1)) by first | with_reducible exact wordTo_succ _ | rfl | omega | exact wrap_le (by omega) (by omega))) (.cons (svI (show (IntKind.wrap .i64 ((j : Int) + 1)) = (((j + 1) : Int)) by first | with_reducible exact wordTo_succ _ | rfl | omega | exact wrap_le (by omega) (by omega))) .nil))) (.cons (eq1 (fun z1 => some (0, k6 + 1 + 1 + 1, O.box [.d (.sl false 5 1 (List.map u8c (r.b))), .d (.v (.int .i64 (z1)))])) (show (nextP r.b (nextsP r.b r.p j)) = (nextsP r.b r.p (j + 1)) by first | with_reducible exact wordTo_succ _ | rfl | omega | exact wrap_le (by omega) (by omega))) .nil)) ⟨(show (j + 1) ≤ 8 by omega), (show 8 - (j + 1) < 8 - j by omega)⟩
  ·have c0 := of_decide_eq_false c0
   refine .exit <| .seq <| .rs fun k8 => .mv rfl <| .as rfl <| .z <| .ret ?_
   have e10 : (nextsP r.b r.p j) = (wordP r.b r.p) := by (first | exact (word_end hI c0).1 | exact (word_end hI c0).2)
   exact fin1 (.inr rfl) [] [([0, 0, 0], (0, q4, .box [.d (.sl false 5 1 (List.map u8c (r.b))), .d (.v (.int .i64 (wordP r.b r.p)))]))] (.one (svI (show (wordTo r.b r.p j) = (wordV r.b r.p) by (first | exact (word_end hI c0).1 | exact (word_end hI c0).2))) .nil) (.dd (.cons (.ptr (.head _) (.dd (.dd .nil)) (by simp)) .nil)) rfl rfl (.cons (eq1 (fun z1 => some (0, q4, O.box [.d (.sl false 5 1 (List.map u8c (r.b))), .d (.v (.int .i64 (z1)))])) e10) .nil)
theorem c_num (r : Rdr) (hr : Rdr.ok r.b r.p) : Trip Tryz.prog 107 [(false, 1)] ([.pt true [.sl false 5 1 (List.map u8c (r.b)), .v (.int .i64 (r.p))]]) [(false, 1)] [.v (.int .i64 (numV r.b r.p))] [(0, .pt true [.sl false 5 1 (List.map u8c (r.b)), .v (.int .i64 (numP r.b r.p))])] := by
 refine Trip.of Tryz.func107 (by decide) (c := _) rfl rfl (Nat.le_of_ble_eq_true rfl) rfl (AftOk.pt rfl (AftOk.nil _)) <| .seq <| .rs fun k1 => .as rfl <| .z <| .seq <| .seq <| .rs fun k2 => .mv rfl ?_
 refine .g (fun _ τ => ⟨_, .call (.no rfl) rfl [] [([0, 0, 0], (0, 0, .box [.d (.sl false 5 1 (List.map u8c (r.b))), .d (.v (.int .i64 (r.p)))]))] (c_below r 6 hr) rfl rfl rfl rfl rfl (.cons (.ptr (.head _) (.dd (.dd .nil)) (by simp)) (.dd .nil)) rfl rfl (fun h => absurd rfl h) (.own [4, 0] .nil) (.ptr rfl (.head _) (by simp) .nil) rfl rfl rfl (AllH.get (.r rfl)) rfl rfl rfl τ⟩) <| .z <| .block <| .seq <| .rs fun k3 => .bi rfl <| .as rfl <| .z ?_
 refine .cond (t := (belowV r.b r.p 6) == 0) rfl (fun c0 => ?_) (fun c0 => ?_)
 ·have c0 := (by simpa using c0 : (belowV r.b r.p 6) = 0)
  refine .seq <| .rs fun k4 => .g (fun _ τ => ⟨_, .buildSlice (.no rfl) rfl (els := [[.v (.int .i64 (-9223372036854775808))], [.v (.int .i64 (-9223372036854775807))], [.v (.int .i64 (9223372036854775807))], [.v (.int .i64 (9223372036854775806))], [.v (.int .i64 (-1))], [.v (.int .i64 (0))], [.v (.int .i64 (1))], [.v (.int .i64 (4294967296))], [.v (.int .i64 (-4294967296))], [.v (.int .i64 (3037000500))]]) t31 rfl z2 rfl rfl rfl rfl rfl rfl rfl rfl (by simp [i2]) (.cons _ _ _ _ _ _ (.d _) (.cons _ _ _ _ _ _ (.d _) (.cons _ _ _ _ _ _ (.d _) (.cons _ _ _ _ _ _ (.d _) (.cons _ _ _ _ _ _ (.d _) (.cons _ _ _ _ _ _ (.d _) (.cons _ _ _ _ _ _ (.d _) (.cons _ _ _ _ _ _ (.d _) (.cons _ _ _ _ _ _ (.d _) (.cons _ _ _ _ _ _ (.d _) .nil)))))))))) rfl rfl rfl τ⟩) <| .mv rfl ?_
  refine .g (fun _ τ => ⟨_, .call (.no rfl) rfl [] [([0, 0, 0], (0, k2 + 1, .box [.d (.sl false 5 1 (List.map u8c (r.b))), .d (.v (.int .i64 (belowP r.b r.p 6)))]))] (c_below (Rdr.mk r.b (belowP r.b r.p 6)) 10 (Rdr.ok.below (n := 6) hr)) rfl rfl rfl rfl rfl (.cons (.ptr (.head _) (.dd (.dd .nil)) (by simp)) (.dd .nil)) rfl rfl (fun h => absurd rfl h) (.own [9, 0] .nil) (.ptr rfl (.head _) (by simp) .nil) rfl rfl rfl (AllH.get (.r rfl)) rfl rfl rfl τ⟩) <| .g (fun _ τ => ⟨_, .indexAddr (.no rfl) rfl ((belowV r.b (belowP r.b r.p 6) 10).toNat) t31 rfl t2 rfl rfl rfl (.ref _ _ _ _ _ rfl) rfl rfl (by (dsimp only; have h9 := belowV_bnd (n := 10) (hr.below (n := 6)) (by omega); omega)) (map_get (c := i64c) (L := numL) (by have h9 := belowV_bnd (n := 10) (hr.below (n := 6)) (by omega); show _ < 10; omega)) rfl rfl τ⟩) ?_
  refine .ld t2 rfl (.eptr _ _ _ _ _ _ _ _ _ rfl (map_get (c := i64c) (L := numL) (by have h9 := belowV_bnd (n := 10) (hr.below (n := 6)) (by omega); show _ < 10; omega))) rfl <| .as rfl <| .z <| .ret ?_
  have e6 : (belowP r.b (belowP r.b r.p 6) 10) = (numP r.b r.p) := by (first | exact (num_0 c0).1.symm | exact (num_0 c0).2.symm)
  exact fin1 (.inr rfl) [] [([0, 0, 0], (0, k4 + 1 + 1, .box [.d (.sl false 5 1 (List.map u8c (r.b))), .d (.v (.int .i64 (numP r.b r.p)))]))] (.one (svI (show (([-9223372036854775808, -9223372036854775807, 9223372036854775807, 9223372036854775806, -1, 0, 1, 4294967296, -4294967296, 3037000500]).getD ((belowV r.b (belowP r.b r.p 6) 10).toNat) default) = (numV r.b r.p) by (first | exact (num_0 c0).1.symm | exact (num_0 c0).2.symm))) .nil) (.dd (.cons (.ptr (.head _) (.dd (.dd .nil)) (by simp)) .nil)) rfl rfl (.cons (eq1 (fun z1 => some (0, k4 + 1 + 1, O.box [.d (.sl false 5 1 (List.map u8c (r.b))), .d (.v (.int .i64 (z1)))])) e6) .nil)
 ·have c0 := (by simpa using c0 : ¬ ((belowV r.b r.p 6) = 0))
  refine .seq <| .rs fun k7 => .bi rfl <| .as rfl <| .z ?_
  refine .cond (t := (belowV r.b r.p 6) == 1) rfl (fun c1 => ?_) (fun c1 => ?_)
  ·have c1 := (by simpa using c1 : (belowV r.b r.p 6) = 1)
   refine .seq <| .rs fun k8 => .mv rfl <| .g (fun _ τ => ⟨_, .call (.no rfl) rfl [] [([0, 0, 0], (0, k2 + 1, .box [.d (.sl false 5 1 (List.map u8c (r.b))), .d (.v (.int .i64 (belowP r.b r.p 6)))]))] (c_word (Rdr.mk r.b (belowP r.b r.p 6)) (Rdr.ok.below (n := 6) hr)) rfl rfl rfl rfl rfl (.cons (.ptr (.head _) (.dd (.dd .nil)) (by simp)) .nil) rfl rfl (fun h => absurd rfl h) (.own [15, 0] .nil) (.ptr rfl (.head _) (by simp) .nil) rfl rfl rfl (AllH.get (.r rfl)) rfl rfl rfl τ⟩) <| .g (fun _ τ => ⟨_, .conv (.no rfl) rfl t102 t2 rfl rfl rfl rfl rfl rfl τ⟩) <| .as rfl <| .z <| .ret ?_
   have e10 : (wordP r.b (belowP r.b r.p 6)) = (numP r.b r.p) := by (first | exact (num_1 c0 c1).1.symm | exact (num_1 c0 c1).2.symm)
   exact fin1 (.inr rfl) [] [([0, 0, 0], (0, k8 + 1, .box [.d (.sl false 5 1 (List.map u8c (r.b))), .d (.v (.int .i64 (numP r.b r.p)))]))] (.one (svI (show (IntKind.wrap .i64 (wordV r.b (belowP r.b r.p 6))) = (numV r.b r.p) by (first | exact (num_1 c0 c1).1.symm | exact (num_1 c0 c1).2.symm))) .nil) (.dd (.cons (.ptr (.head _) (.dd (.dd .nil)) (by simp)) .nil)) rfl rfl (.cons (eq1 (fun z1 => some (0, k8 + 1, O.box [.d (.sl false 5 1 (List.map u8c (r.b))), .d (.v (.int .i64 (z1)))])) e10) .nil)
  ·have c1 := (by simpa using c1 : ¬ ((belowV r.b r.p 6) = 1))
   refine .seq <| .rs fun k11 => .bi rfl <| .as rfl <| .z ?_
   refine .cond (t := (belowV r.b r.p 6) == 2) rfl (fun c2 => ?_) (fun c2 => ?_)
   ·have c2 := (by simpa using c2 : (belowV r.b r.p 6) = 2)
    refine .seq <| .rs fun k12 => .mv rfl <| .g (fun _ τ => ⟨_, .call (.no rfl) rfl [] [([0, 0, 0], (0, k2 + 1, .box [.d (.sl false 5 1 (List.map u8c (r.b))), .d (.v (.int .i64 (belowP r.b r.p 6)))]))] (c_word (Rdr.mk r.b (belowP r.b r.p 6)) (Rdr.ok.below (n := 6) hr)) rfl rfl rfl rfl rfl (.cons (.ptr (.head _) (.dd (.dd .nil)) (by simp)) .nil) rfl rfl (fun h => absurd rfl h) (.own [20, 0] .nil) (.ptr rfl (.head _) (by simp) .nil) rfl rfl rfl (AllH.get (.r rfl)) rfl rfl rfl τ⟩) <| .g (fun _ τ => ⟨_, .conv (.no rfl) rfl t102 t2 rfl rfl rfl rfl rfl rfl τ⟩) <| .mv rfl ?_
    refine .g (fun _ τ => ⟨_, .call (.no rfl) rfl [] [([0, 0, 0], (0, k12 + 1, .box [.d (.sl false 5 1 (List.map u8c (r.b))), .d (.v (.int .i64 (wordP r.b (belowP r.b r.p 6))))]))] (c_below (Rdr.mk r.b (wordP r.b (belowP r.b r.p 6))) 60 (Rdr.ok.word (Rdr.ok.below (n := 6) hr))) rfl rfl rfl rfl rfl (.cons (.ptr (.head _) (.dd (.dd .nil)) (by simp)) (.dd .nil)) rfl rfl (fun h => absurd rfl h) (.own [23, 0] .nil) (.ptr rfl (.head _) (by simp) .nil) rfl rfl rfl (AllH.get (.r rfl)) rfl rfl rfl τ⟩) <| .g (fun _ τ => ⟨_, .conv (.no rfl) rfl t3 t71 rfl rfl rfl rfl rfl rfl τ⟩) <| .g (fun _ τ => ⟨_, .shr (.no rfl) rfl rfl rfl rfl (by exact wrap_u64_nn _) rfl rfl τ⟩) <| .as rfl <| .z <| .ret ?_
    have e14 : (belowP r.b (wordP r.b (belowP r.b r.p 6)) 60) = (numP r.b r.p) := by (first | exact (num_2 c0 c1 c2).1.symm | exact (num_2 c0 c1 c2).2.symm)
    exact fin1 (.inr rfl) [] [([0, 0, 0], (0, k12 + 1 + 1 + 1 + 1, .box [.d (.sl false 5 1 (List.map u8c (r.b))), .d (.v (.int .i64 (numP r.b r.p)))]))] (.one (svI (show ((IntKind.wrap .i64 (wordV r.b (belowP r.b r.p 6))).fdiv (2 ^ (min ((IntKind.wrap .u64 (belowV r.b (wordP r.b (belowP r.b r.p 6)) 60))).toNat (IntKind.bits .i64)))) = (numV r.b r.p) by (first | exact (num_2 c0 c1 c2).1.symm | exact (num_2 c0 c1 c2).2.symm))) .nil) (.dd (.cons (.ptr (.head _) (.dd (.dd .nil)) (by simp)) .nil)) rfl rfl (.cons (eq1 (fun z1 => some (0, k12 + 1 + 1 + 1 + 1, O.box [.d (.sl false 5 1 (List.map u8c (r.b))), .d (.v (.int .i64 (z1)))])) e14) .nil)
   ·have c2 := (by simpa using c2 : ¬ ((belowV r.b r.p 6) = 2))
    refine .skip <| .seq <| .rs fun k15 => .mv rfl <| .g (fun _ τ => ⟨_, .call (.no rfl) rfl [] [([0, 0, 0], (0, k2 + 1, .box [.d (.sl false 5 1 (List.map u8c (r.b))), .d (.v (.int .i64 (belowP r.b r.p 6)))]))] (c_below (Rdr.mk r.b (belowP r.b r.p 6)) 41 (Rdr.ok.below (n := 6) hr)) rfl rfl rfl rfl rfl (.cons (.ptr (.head _) (.dd (.dd .nil)) (by simp)) (.dd .nil)) rfl rfl (fun h => absurd rfl h) (.own [27, 0] .nil) (.ptr rfl (.head _) (by simp) .nil) rfl rfl rfl (AllH.get (.r rfl)) rfl rfl rfl τ⟩) <| .bi rfl <| .as rfl <| .z <| .ret ?_
    have e17 : (belowP r.b (belowP r.b r.p 6) 41) = (numP r.b r.p) := by (first | exact (num_3 c0 c1 c2).1.symm | exact (num_3 c0 c1 c2).2.symm)
    exact fin1 (.inr rfl) [] [([0, 0, 0], (0, k15 + 1, .box [.d (.sl false 5 1 (List.map u8c (r.b))), .d (.v (.int .i64 (numP r.b r.p)))]))] (.one (svI (show (IntKind.wrap .i64 ((belowV r.b (belowP r.b r.p 6) 41) - 20)) = (numV r.b r.p) by (first | exact (num_3 c0 c1 c2).1.symm | exact (num_3 c0 c1 c2).2.symm))) .nil) (.dd (.cons (.ptr (.head _) (.dd (.dd .nil)) (by simp)) .nil)) rfl rfl (.cons (eq1 (fun z1 => some (0, k15 + 1, O.box [.d (.sl false 5 1 (List.map u8c (r.b))), .d (.v (.int .i64 (z1)))])) e17) .nil)
end Go.Proofs

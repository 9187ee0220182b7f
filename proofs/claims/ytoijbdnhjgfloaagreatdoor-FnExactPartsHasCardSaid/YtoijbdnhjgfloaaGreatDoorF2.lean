/- Contracts of the program's functions at this seat, printed by a program of ours and checked by Lean: each under the conditions of its own statement. -/
import Derived.Test.YtoijbdnhjgfloaaGreatDoorF1
set_option linter.all false
set_option linter.unnecessarySimpa false
set_option linter.unusedSectionVars false
set_option linter.unusedSimpArgs false
set_option linter.unusedVariables false
namespace Go.Proofs
open Go Go.Proofs Go.Ev

def i227 : TI := ⟨.fn, 1, 8, [.nilFunc]⟩
theorem t227 : TyOk Tryz.prog 227 i227 := ⟨⟨_, _, _, Tryz.underlying227⟩, by kernel_rfl⟩
theorem z227 : ZOk Tryz.prog 227 i227 := ⟨t227, rfl⟩
theorem c_sIvHas (a : Iv) (n : Int) : Trip Tryz.prog 163 [(true, 2), (false, 1)] (Iv.c a ++ [.v (.int .i64 (n))]) [(false, 1)] [.v (.bool (Iv.has a n))] [] := by
 refine Trip.of Tryz.func163 (by decide) (c := _) rfl rfl (shB_ok rfl) (Nat.le_of_ble_eq_true rfl) rfl (AftOk.nil _) <| .seq <| .rs fun k1 => .g (fun _ τ => ⟨_, .box (.no rfl) rfl rfl rfl rfl rfl τ⟩) <| .as rfl <| .z <| .seq ?_
 refine .reg (X := Unit) (fun ζ => .of [(4, .one (.d (.v (.bool ((decide (a.lo ≤ n) && decide (n ≤ a.hi)))))))] []) [⟨[2], some 5, [], []⟩, ⟨[5], some 6, [[2]], []⟩, ⟨[1], some 7, [], []⟩, ⟨[6, 7], some 8, [], []⟩, ⟨[8], some 9, [], []⟩, ⟨[9, 1], some 10, [], []⟩, ⟨[9, 2], some 11, [], []⟩, ⟨[9, 11], some 12, [[2]], []⟩, ⟨[9, 10, 12], some 13, [], []⟩, ⟨[9, 13], some 14, [], []⟩, ⟨[14], some 4, [], []⟩] (fun k2 => ?_) ?_
 ·skip
  refine .fieldAddrP (.no rfl) rfl t182 rfl rfl t2 rfl rfl rfl rfl <| .load (.no rfl) rfl t2 rfl rfl (.ptr _ _ _ _ _ rfl) rfl rfl rfl rfl <| .move (.no rfl) rfl rfl rfl rfl <| .bin (.no rfl) rfl rfl rfl rfl rfl rfl <| .moveB (.no rfl) rfl rfl rfl rfl fun b3 g1_4 => ?_
  cases b3
  ·skip
   refine .off rfl rfl rfl rfl rfl rfl rfl <| .off rfl rfl rfl rfl rfl rfl rfl <| .off rfl rfl rfl rfl rfl rfl rfl <| .off rfl rfl rfl rfl rfl rfl rfl <| .pick (.no rfl) rfl rfl rfl rfl rfl <| .assign (.no rfl) rfl rfl rfl rfl ?_
   exact .fin () (.of (.cons (svB (show (false) = ((decide (a.lo ≤ n) && decide (n ≤ a.hi))) by first | (simp only [g1_4, Bool.true_or, Bool.false_or, Bool.true_and, Bool.false_and, Bool.not_true, Bool.not_false]; done) | simp [g1_4])) .nil) .nil)
  ·skip
   refine .move (.on rfl rfl rfl rfl rfl) rfl rfl rfl rfl <| .fieldAddrP (.on rfl rfl rfl rfl rfl) rfl t182 rfl rfl t2 rfl rfl rfl rfl <| .load (.on rfl rfl rfl rfl rfl) rfl t2 rfl rfl (.ptr _ _ _ _ _ rfl) rfl rfl rfl rfl <| .bin (.on rfl rfl rfl rfl rfl) rfl rfl rfl rfl rfl rfl <| .pick (.no rfl) rfl rfl rfl rfl rfl <| .assign (.no rfl) rfl rfl rfl rfl ?_
   exact .fin () (.of (.cons (svB (show (decide (n ≤ a.hi)) = ((decide (a.lo ≤ n) && decide (n ≤ a.hi))) by first | (simp only [g1_4, Bool.true_or, Bool.false_or, Bool.true_and, Bool.false_and, Bool.not_true, Bool.not_false]; done) | simp [g1_4])) .nil) .nil)
 intro _
 refine .ret ?_
 exact fin0 (.inr rfl) (.one (svB (show ((decide (a.lo ≤ n) && decide (n ≤ a.hi))) = (Iv.has a n) by (first | rfl | simp_all [Iv.has, inR]))) .nil) (.dd .nil) rfl
theorem c_has (a : Iv) (n : Int) : Trip Tryz.prog 206 [(true, 2), (false, 1)] (Iv.c a ++ [.v (.int .i64 (n))]) [(false, 1)] [.v (.bool (Iv.has a n))] [] := by
 refine Trip.of Tryz.func206 (by decide) (c := _) rfl rfl (shB_ok rfl) (Nat.le_of_ble_eq_true rfl) rfl (AftOk.nil _) <| .seq <| .rs fun k1 => .g (fun _ τ => ⟨_, .box (.no rfl) rfl rfl rfl rfl rfl τ⟩) <| .as rfl <| .z <| .seq <| .rs fun k2 => .mv rfl ?_
 refine .fp t182 t2 rfl <| .ld t2 rfl (.ptr _ _ _ _ _ rfl) rfl <| .fp t182 t2 rfl <| .ld t2 rfl (.ptr _ _ _ _ _ rfl) rfl <| .c0 (c_within n a.lo a.hi) rfl (.dd (.dd (.dd .nil))) (.own [10, 0] .nil) rfl <| .as rfl <| .z <| .ret ?_
 exact fin0 (.inr rfl) (.one (svB (show (inR n a.lo a.hi) = (Iv.has a n) by rfl)) .nil) (.dd .nil) rfl
theorem c_IndexFuncN (l : List Int) (F_p : FuncId) (first_p : List (Bool × List D)) (caps_p : List D) (p : Int → Bool) (h_p : ∀ (x0 : Int), FnTrip Tryz.prog F_p first_p caps_p [(false, 1)] ([.v (.int .i64 (x0))]) [(false, 1)] [.v (.bool (p x0))]) : Trip Tryz.prog 242 [(false, 1), (false, 1)] ([.sl false 2 1 (List.map i64c (l))] ++ [.fn F_p first_p caps_p]) [(false, 1)] [.v (.int .i64 (idx p l))] [] := by
 refine Trip.of Tryz.func242 (by decide) (c := _) rfl rfl (shB_ok rfl) (Nat.le_of_ble_eq_true rfl) rfl (AftOk.nil _) <| .sl (t := 0) rfl fun hs1l => .seq <| .rs fun k2 => .as rfl <| .z <| .seq <| .seq <| .rs fun k3 => ?_
 refine .mv rfl <| .g (fun _ τ => ⟨_, .len (.no rfl) rfl (z := (l.length : Int)) t64 rfl rfl rfl (.d _ _) (map_len _ _) rfl τ⟩) <| .mv rfl <| .z <| .block ?_
 refine .loop (X := Nat) (fun ζ => .of [(0, .one (.d (.sl false 2 1 (List.map i64c (l))))), (1, .one (.d (.fn F_p first_p caps_p))), (7, .one (.d (.v (.int .i64 ((l.length : Int)))))), (8, .one (.d (.v (.int .i64 ((ζ : Int))))))] []) (fun ζ => ζ ≤ l.length ∧ allTo ζ (fun i => !p (l.getD i default)) = true) (fun ζ => l.length - ζ) ?_ ?_
 ·skip
  exact .here 0 (.of (.cons rfl (.cons rfl (.cons rfl (.cons (svI (show (0) = ((0 : Int)) by first | rfl | omega | exact wrap_le (by omega) (by omega) | (rw [wrap_le (by omega) (by omega)]; omega))) .nil)))) .nil) (show 0 ≤ l.length ∧ allTo 0 (fun i => !p (l.getD i default)) = true by exact ⟨by omega, rfl⟩)
 ·rintro j hI
  have hI : j ≤ l.length ∧ allTo j (fun i => !p (l.getD i default)) = true := hI
  refine .seq <| .rs fun k4 => .bi rfl <| .z <| .seq ?_
  refine .cond (t := decide ((j : Int) < (l.length : Int))) rfl (fun c0 => ?_) (fun c0 => ?_)
  ·have c0 := of_decide_eq_true c0
   refine .skip <| .seq <| .block <| .seq <| .rs fun k5 => .mv rfl <| .as rfl <| .z <| .seq ?_
   refine .rs fun k6 => .mv rfl <| .mv rfl <| .mv rfl <| .g (fun _ τ => ⟨_, .indexAddr (.no rfl) rfl (j) t64 rfl t2 rfl rfl rfl (.d _ _) rfl rfl rfl (map_get (by omega)) rfl rfl τ⟩) <| .ld t2 rfl (.d _) rfl <| .g (fun _ τ => ⟨_, .callF (.no rfl) rfl (ds := [.v (.int .i64 (l.getD j default))]) (h_p (l.getD j default)) rfl rfl rfl rfl (.own [16, 0] .nil) rfl rfl rfl rfl rfl rfl τ⟩) <| .z ?_
   refine .cond (t := p (l.getD j default)) rfl (fun c1 => ?_) (fun c1 => ?_)
   ·have c1 := c1
    refine .seq <| .rs fun k7 => .mv rfl <| .as rfl <| .z <| .ret ?_
    exact fin0 (.inr rfl) (.one (svI (show ((j : Int)) = (idx p l) by exact (idx_found (j := j) (by omega) hI.2 (by simpa using c1)).symm)) .nil) (.dd .nil) rfl
   ·have c1 := c1
    refine .skip <| .rs fun k9 => .bi rfl <| .mv rfl <| .z ?_
    exact .here (j + 1) (.of (.cons rfl (.cons rfl (.cons rfl (.cons (svI (show (IntKind.wrap .i64 ((j : Int) + 1)) = (((j + 1) : Int)) by first | rfl | omega | exact wrap_le (by omega) (by omega) | (rw [wrap_le (by omega) (by omega)]; omega))) .nil)))) .nil) ⟨(show (j + 1) ≤ l.length ∧ allTo (j + 1) (fun i => !p (l.getD i default)) = true by exact ⟨by omega, allTo_step hI.2 (by simpa using c1)⟩), (show l.length - (j + 1) < l.length - j by omega)⟩
  ·have c0 := of_decide_eq_false c0
   refine .exit <| .seq <| .rs fun k10 => .as rfl <| .z <| .ret ?_
   exact fin0 (.inr rfl) (.one (svI (show (-1) = (idx p l) by exact (idx_none (by omega) hI.2).symm)) .nil) (.dd .nil) rfl
theorem c_ContainsFuncN (l : List Int) (F_p : FuncId) (first_p : List (Bool × List D)) (caps_p : List D) (p : Int → Bool) (h_p : ∀ (x0 : Int), FnTrip Tryz.prog F_p first_p caps_p [(false, 1)] ([.v (.int .i64 (x0))]) [(false, 1)] [.v (.bool (p x0))]) : Trip Tryz.prog 230 [(false, 1), (false, 1)] ([.sl false 2 1 (List.map i64c (l))] ++ [.fn F_p first_p caps_p]) [(false, 1)] [.v (.bool (l.any p))] [] := by
 refine Trip.of Tryz.func230 (by decide) (c := _) rfl rfl (shB_ok rfl) (Nat.le_of_ble_eq_true rfl) rfl (AftOk.nil _) <| .sl (t := 0) rfl fun hs1l => .seq <| .rs fun k2 => .as rfl <| .z <| .seq <| .rs fun k3 => .mv rfl ?_
 refine .mv rfl <| .c0 (c_IndexFuncN l F_p first_p caps_p p h_p) rfl (.dd (.dd .nil)) (.own [7, 0] .nil) rfl <| .bi rfl <| .as rfl <| .z <| .ret ?_
 exact fin0 (.inr rfl) (.one (svB (show (decide ((idx p l) ≥ 0)) = (l.any p) by exact idx_any _ _)) .nil) (.dd .nil) rfl
theorem c_areAll1N (x : Int) (F_p : FuncId) (first_p : List (Bool × List D)) (caps_p : List D) (p : Int → Bool) (h_p : ∀ (x0 : Int), FnTrip Tryz.prog F_p first_p caps_p [(false, 1)] ([.v (.int .i64 (x0))]) [(false, 1)] [.v (.bool (p x0))]) : Trip Tryz.prog 231 [(false, 1), (false, 1)] ([.v (.int .i64 (x))] ++ [.pt false [.fn F_p first_p caps_p]]) [(false, 1)] [.v (.bool (!p x))] [] := by
 refine Trip.of Tryz.func231 (by decide) (c := _) rfl rfl (shB_ok rfl) (Nat.le_of_ble_eq_true rfl) rfl (AftOk.nil _) <| .seq <| .rs fun k1 => .as rfl <| .z <| .seq <| .rs fun k2 => .ld t227 rfl (.d _) rfl <| .mv rfl ?_
 refine .g (fun _ τ => ⟨_, .callF (.no rfl) rfl (ds := [.v (.int .i64 (x))]) (h_p x) rfl rfl rfl rfl (.own [6, 0] .nil) rfl rfl rfl rfl rfl rfl τ⟩) <| .un rfl <| .as rfl <| .z <| .ret ?_
 exact fin0 (.inr rfl) (.one (svB (show (!(p x)) = (!p x) by rfl)) .nil) (.dd .nil) rfl
theorem c_areAllN (l : List Int) (F_p : FuncId) (first_p : List (Bool × List D)) (caps_p : List D) (p : Int → Bool) (h_p : ∀ (x0 : Int), FnTrip Tryz.prog F_p first_p caps_p [(false, 1)] ([.v (.int .i64 (x0))]) [(false, 1)] [.v (.bool (p x0))]) : Trip Tryz.prog 207 [(false, 1), (false, 1)] ([.sl false 2 1 (List.map i64c (l))] ++ [.fn F_p first_p caps_p]) [(false, 1)] [.v (.bool (l.all p))] [] := by
 refine Trip.of Tryz.func207 (by decide) (c := _) rfl rfl (shB_ok rfl) (Nat.le_of_ble_eq_true rfl) rfl (AftOk.nil _) <| .sl (t := 0) rfl fun hs1l => .seq <| .rs fun k2 => .g (fun _ τ => ⟨_, .box (.no rfl) rfl rfl rfl rfl rfl τ⟩) <| .as rfl <| .z <| .seq <| .rs fun k3 => ?_
 refine .mv rfl <| .g (fun _ τ => ⟨_, .makeFunc (.no rfl) rfl rfl rfl rfl rfl τ⟩) <| .g (fun _ τ => ⟨_, .call (.no rfl) rfl [[3]] [([3], (k2, k2, .box [.d (.fn F_p first_p caps_p)]))] (c_ContainsFuncN l 231 [] [.pt false [.fn F_p first_p caps_p]] (fun x0 => !p x0) (fun x0 => c_areAll1N x0 F_p first_p caps_p p h_p)) rfl rfl rfl rfl rfl (.dd (.cons (Reads.clo0 (.cons (Reads.ptr0 (.head _) (.head _) (.cons (Reads.d _) .nil)) .nil)).gives .nil)) rfl rfl (fun _ => (ownCons (Owned.v _) ownNil)) (.own [7, 0] .nil) (.nil) rfl rfl rfl (AllH.get (.r rfl)) rfl rfl rfl τ⟩) <| .un rfl <| .as rfl <| .z <| .ret ?_
 exact fin0 (.inr rfl) (.one (svB (show (!(l.any (fun x0 => !p x0))) = (l.all p) by exact not_any _ _)) .nil) (.dd .nil) rfl
theorem c_hasStore (e : Env) (s : Store) (hf : Fits e s) : Trip Tryz.prog 169 [(true, 3), (true, 3)] (Env.c106 e ++ Store.c74 s) [(false, 1)] [.v (.bool (Env.has e s))] [] := by
 refine Trip.of Tryz.func169 (by decide) (c := _) rfl rfl (shB_ok rfl) (Nat.le_of_ble_eq_true rfl) rfl (AftOk.nil _) <| .sla (t := 0) 1 rfl rfl fun hs1l => .sla (t := 0) 2 rfl rfl fun hs2l => .sla (t := 1) 0 rfl rfl fun hs3l => .sla (t := 1) 1 rfl rfl fun hs4l => .sla (t := 1) 2 rfl rfl fun hs5l => .seq <| .rs fun k6 => .g (fun _ τ => ⟨_, .box (.no rfl) rfl rfl rfl rfl rfl τ⟩) ?_
 refine .g (fun _ τ => ⟨_, .box (.no rfl) rfl rfl rfl rfl rfl τ⟩) <| .as rfl <| .z <| .seq <| .seq <| .rs fun k7 => .fp t106 t4 rfl <| .ld t4 rfl (.ptr _ _ _ _ _ rfl) rfl <| .un rfl ?_
 refine .z ?_
 refine .cond (t := !e.live) rfl (fun c0 => ?_) (fun c0 => ?_)
 ·have c0 := (nT id) c0
  refine .seq <| .rs fun k8 => .as rfl <| .z <| .ret ?_
  exact fin0 (.inr rfl) (.one (svB (show (false) = (Env.has e s) by (rw [Env.has_dead c0]))) .nil) (.dd .nil) rfl
 ·have c0 := (nF id) c0
  refine .skip <| .seq <| .seq <| .rs fun k10 => .fp t74 t64 rfl <| .ld t64 rfl (.ptr _ _ _ _ _ rfl) rfl <| .g (fun _ τ => ⟨_, .len (.no rfl) rfl (z := (s.ints.length : Int)) t64 rfl rfl rfl (.d _ _) (map_len _ _) rfl τ⟩) <| .mv rfl <| .z ?_
  refine .block ?_
  refine .loop (X := Nat) (fun ζ => .of [(2, .one (.ptr [2] (k6) 0)), (3, .one (.ptr [3] (k6 + 1) 0)), (13, .one (.d (.sl false 2 1 (List.map i64c (s.ints))))), (14, .one (.d (.v (.int .i64 ((s.ints.length : Int)))))), (15, .one (.d (.v (.int .i64 ((ζ : Int))))))] [([2], (k6, k6, .box [.d (.v (.bool (e.live))), .d (.sl false 182 2 (List.map Iv.c (e.ints))), .d (.sl false 182 2 (List.map Iv.c (e.arrs)))])), ([3], (k6 + 1, k6 + 1, .box [.d (.sl false 2 1 (List.map i64c (s.ints))), .d (.sl false 4 1 (List.map boolc (s.flags))), .d (.sl false 64 1 (List.map slc64 (s.arrs)))]))]) (fun ζ => ζ ≤ s.ints.length ∧ allTo ζ (fun x => Iv.has (e.ints.getD x default) (s.ints.getD x default)) = true) (fun ζ => s.ints.length - ζ) ?_ ?_
  ·skip
   exact .here 0 (.of (.cons rfl (.cons rfl (.cons rfl (.cons rfl (.cons (svI (show (0) = ((0 : Int)) by first | rfl | omega | exact wrap_le (by omega) (by omega) | (rw [wrap_le (by omega) (by omega)]; omega))) .nil))))) (.r rfl)) (show 0 ≤ s.ints.length ∧ allTo 0 (fun x => Iv.has (e.ints.getD x default) (s.ints.getD x default)) = true by exact ⟨by omega, rfl⟩)
  ·rintro j hI
   have hI : j ≤ s.ints.length ∧ allTo j (fun x => Iv.has (e.ints.getD x default) (s.ints.getD x default)) = true := hI
   have hj9 := hf c0
   refine .seq <| .rs fun k11 => .bi rfl <| .z <| .seq ?_
   refine .cond (t := decide ((j : Int) < (s.ints.length : Int))) rfl (fun c1 => ?_) (fun c1 => ?_)
   ·have c1 := of_decide_eq_true c1
    refine .skip <| .seq <| .block <| .seq <| .rs fun k12 => .mv rfl <| .g (fun _ τ => ⟨_, .indexAddr (.no rfl) rfl (j) t64 rfl t2 rfl rfl rfl (.d _ _) rfl rfl rfl (map_get (by omega)) rfl rfl τ⟩) <| .ld t2 rfl (.d _) rfl <| .as rfl ?_
    refine .as rfl <| .z <| .seq <| .rs fun k13 => .fp t106 t104 rfl <| .ld t104 rfl (.ptr _ _ _ _ _ rfl) rfl <| .mv rfl <| .g (fun _ τ => ⟨_, .indexAddr (.no rfl) rfl (j) t104 rfl t182 rfl rfl rfl (.d _ _) rfl rfl rfl (map_get (by omega)) rfl rfl τ⟩) <| .lda t182 rfl (.d _) rfl ?_
    refine .mv rfl <| .c0 (c_has (e.ints.getD j default) (s.ints.getD j default)) rfl (.dd (.dd (.dd .nil))) (.own [26, 0] .nil) rfl <| .un rfl <| .z ?_
    refine .cond (t := !(Iv.has (e.ints.getD j default) (s.ints.getD j default))) rfl (fun c2 => ?_) (fun c2 => ?_)
    ·have c2 := (nT id) c2
     refine .seq <| .rs fun k14 => .as rfl <| .z <| .ret ?_
     exact fin0 (.inr rfl) (.one (svB (show (false) = (Env.has e s) by (rw [Env.has_int (j := j) (by omega) c2]))) .nil) (.dd .nil) rfl
    ·have c2 := (nF id) c2
     refine .skip <| .rs fun k16 => .bi rfl <| .mv rfl <| .z ?_
     exact .here (j + 1) (.of (.cons rfl (.cons rfl (.cons rfl (.cons rfl (.cons (svI (show (IntKind.wrap .i64 ((j : Int) + 1)) = (((j + 1) : Int)) by first | rfl | omega | exact wrap_le (by omega) (by omega) | (rw [wrap_le (by omega) (by omega)]; omega))) .nil))))) (.r rfl)) ⟨(show (j + 1) ≤ s.ints.length ∧ allTo (j + 1) (fun x => Iv.has (e.ints.getD x default) (s.ints.getD x default)) = true by exact ⟨by omega, allTo_step hI.2 c2⟩), (show s.ints.length - (j + 1) < s.ints.length - j by omega)⟩
   ·have c1 := of_decide_eq_false c1
    refine .exit <| .seq <| .seq <| .rs fun k17 => .fp t74 t66 rfl <| .ld t66 rfl (.ptr _ _ _ _ _ rfl) rfl <| .g (fun _ τ => ⟨_, .len (.no rfl) rfl (z := (s.arrs.length : Int)) t66 rfl rfl rfl (.d _ _) (map_len _ _) rfl τ⟩) <| .mv rfl <| .z ?_
    refine .block ?_
    refine .loop (X := Nat) (fun ζ => .of [(2, .one (.ptr [2] (k6) 0)), (30, .one (.d (.sl false 64 1 (List.map slc64 (s.arrs))))), (31, .one (.d (.v (.int .i64 ((s.arrs.length : Int)))))), (32, .one (.d (.v (.int .i64 ((ζ : Int))))))] [([2], (k6, k6, .box [.d (.v (.bool (e.live))), .d (.sl false 182 2 (List.map Iv.c (e.ints))), .d (.sl false 182 2 (List.map Iv.c (e.arrs)))]))]) (fun ζ => ζ ≤ s.arrs.length ∧ allTo ζ (fun x => (s.arrs.getD x default).all (Iv.has (e.arrs.getD x default))) = true) (fun ζ => s.arrs.length - ζ) ?_ ?_
    ·skip
     exact .here 0 (.of (.cons rfl (.cons rfl (.cons rfl (.cons (svI (show (0) = ((0 : Int)) by first | rfl | omega | exact wrap_le (by omega) (by omega) | (rw [wrap_le (by omega) (by omega)]; omega))) .nil)))) (.r rfl)) (show 0 ≤ s.arrs.length ∧ allTo 0 (fun x => (s.arrs.getD x default).all (Iv.has (e.arrs.getD x default))) = true by exact ⟨by omega, rfl⟩)
    ·rintro i hI
     have hI : i ≤ s.arrs.length ∧ allTo i (fun x => (s.arrs.getD x default).all (Iv.has (e.arrs.getD x default))) = true := hI
     have hI0 := ‹j ≤ s.ints.length ∧ _›
     refine .seq <| .rs fun k18 => .bi rfl <| .z <| .seq ?_
     refine .cond (t := decide ((i : Int) < (s.arrs.length : Int))) rfl (fun c3 => ?_) (fun c3 => ?_)
     ·have c3 := of_decide_eq_true c3
      refine .skip <| .seq <| .block <| .seq <| .rs fun k19 => .mv rfl <| .g (fun _ τ => ⟨_, .indexAddr (.no rfl) rfl (i) t66 rfl t64 rfl rfl rfl (.d _ _) rfl rfl rfl (map_get (by omega)) rfl rfl τ⟩) <| .ld t64 rfl (.d _) rfl <| .as rfl ?_
      refine .as rfl <| .z <| .seq <| .rs fun k20 => .mv rfl <| .fp t106 t104 rfl <| .ld t104 rfl (.ptr _ _ _ _ _ rfl) rfl <| .mv rfl <| .g (fun _ τ => ⟨_, .indexAddr (.no rfl) rfl (i) t104 rfl t182 rfl rfl rfl (.d _ _) rfl rfl rfl (map_get (by omega)) rfl rfl τ⟩) ?_
      refine .lda t182 rfl (.d _) rfl <| .g (fun _ τ => ⟨_, .makeFunc (.no rfl) rfl rfl rfl rfl rfl τ⟩) <| .c0 (c_areAllN (s.arrs.getD i default) 206 [(true, [.v (.int .i64 ((e.arrs.getD i default).lo)), .v (.int .i64 ((e.arrs.getD i default).hi))])] [] (fun x0 => Iv.has (e.arrs.getD i default) x0) (fun x0 => c_has (e.arrs.getD i default) x0)) rfl (.dd (.cons (Reads.clo1 (.cons (Reads.d _) (.cons (Reads.d _) .nil)) (.nil)).gives .nil)) (.own [44, 0] .nil) rfl <| .un rfl <| .z ?_
      refine .cond (t := !((s.arrs.getD i default).all (fun x0 => Iv.has (e.arrs.getD i default) x0))) rfl (fun c4 => ?_) (fun c4 => ?_)
      ·have c4 := (nT id) c4
       refine .seq <| .rs fun k21 => .as rfl <| .z <| .ret ?_
       exact fin0 (.inr rfl) (.one (svB (show (false) = (Env.has e s) by (rw [Env.has_arr (j := i) (by omega) c4]))) .nil) (.dd .nil) rfl
      ·have c4 := (nF id) c4
       refine .skip <| .rs fun k23 => .bi rfl <| .mv rfl <| .z ?_
       exact .here (i + 1) (.of (.cons rfl (.cons rfl (.cons rfl (.cons (svI (show (IntKind.wrap .i64 ((i : Int) + 1)) = (((i + 1) : Int)) by first | rfl | omega | exact wrap_le (by omega) (by omega) | (rw [wrap_le (by omega) (by omega)]; omega))) .nil)))) (.r rfl)) ⟨(show (i + 1) ≤ s.arrs.length ∧ allTo (i + 1) (fun x => (s.arrs.getD x default).all (Iv.has (e.arrs.getD x default))) = true by exact ⟨by omega, allTo_step hI.2 c4⟩), (show s.arrs.length - (i + 1) < s.arrs.length - i by omega)⟩
     ·have c3 := of_decide_eq_false c3
      refine .exit <| .seq <| .rs fun k24 => .as rfl <| .z <| .ret ?_
      exact fin0 (.inr rfl) (.one (svB (show (true) = (Env.has e s) by (rw [Env.has_done c0 (i := j) (by omega) hI0.2 (j := i) (by omega) hI.2]))) .nil) (.dd .nil) rfl
theorem c_l6Has (e : Env) (s : Store) (hf : Fits e s) (hst : Store.small s) : Trip Tryz.prog 108 [(true, 3), (true, 3)] (Env.c106 e ++ Store.c74 s) [(false, 1)] [.v (.bool (Env.has e s))] [] := by
 refine Trip.of Tryz.func108 (by decide) (c := _) rfl rfl (shB_ok rfl) (Nat.le_of_ble_eq_true rfl) rfl (AftOk.nil _) <| .sla (t := 0) 1 rfl rfl fun hs1l => .sla (t := 0) 2 rfl rfl fun hs2l => .sla (t := 1) 0 rfl rfl fun hs3l => .sla (t := 1) 1 rfl rfl fun hs4l => .sla (t := 1) 2 rfl rfl fun hs5l => .seq <| .rs fun k6 => .g (fun _ τ => ⟨_, .box (.no rfl) rfl rfl rfl rfl rfl τ⟩) ?_
 refine .g (fun _ τ => ⟨_, .box (.no rfl) rfl rfl rfl rfl rfl τ⟩) <| .as rfl <| .z <| .seq <| .seq <| .rs fun k7 => .fp t106 t4 rfl <| .ld t4 rfl (.ptr _ _ _ _ _ rfl) rfl <| .un rfl ?_
 refine .z ?_
 refine .cond (t := !e.live) rfl (fun c0 => ?_) (fun c0 => ?_)
 ·have c0 := (nT id) c0
  refine .seq <| .rs fun k8 => .as rfl <| .z <| .ret ?_
  exact fin0 (.inr rfl) (.one (svB (show (false) = (Env.has e s) by (rw [Env.has_dead c0]))) .nil) (.dd .nil) rfl
 ·have c0 := (nF id) c0
  refine .skip <| .seq <| .seq <| .rs fun k10 => .as rfl <| .z <| .block ?_
  refine .loop (X := Nat) (fun ζ => .of [(2, .one (.ptr [2] (k6) 0)), (3, .one (.ptr [3] (k6 + 1) 0)), (5, .one (.d (.v (.int .i64 ((ζ : Int))))))] [([2], (k6, k6, .box [.d (.v (.bool (e.live))), .d (.sl false 182 2 (List.map Iv.c (e.ints))), .d (.sl false 182 2 (List.map Iv.c (e.arrs)))])), ([3], (k6 + 1, k6 + 1, .box [.d (.sl false 2 1 (List.map i64c (s.ints))), .d (.sl false 4 1 (List.map boolc (s.flags))), .d (.sl false 64 1 (List.map slc64 (s.arrs)))]))]) (fun ζ => ζ ≤ e.ints.length ∧ allTo ζ (fun x => Iv.has (e.ints.getD x default) (s.ints.getD x default)) = true) (fun ζ => e.ints.length - ζ) ?_ ?_
  ·skip
   exact .here 0 (.of (.cons rfl (.cons rfl (.cons (svI (show (0) = ((0 : Int)) by first | rfl | omega | exact wrap_le (by omega) (by omega) | (rw [wrap_le (by omega) (by omega)]; omega))) .nil))) (.r rfl)) (show 0 ≤ e.ints.length ∧ allTo 0 (fun x => Iv.has (e.ints.getD x default) (s.ints.getD x default)) = true by exact ⟨by omega, rfl⟩)
  ·rintro j hI
   have hI : j ≤ e.ints.length ∧ allTo j (fun x => Iv.has (e.ints.getD x default) (s.ints.getD x default)) = true := hI
   have hj9 := hf c0
   refine .seq <| .seq <| .rs fun k11 => .mv rfl <| .fp t106 t104 rfl <| .ld t104 rfl (.ptr _ _ _ _ _ rfl) rfl <| .g (fun _ τ => ⟨_, .len (.no rfl) rfl (z := (e.ints.length : Int)) t104 rfl rfl rfl (.d _ _) (map_len _ _) rfl τ⟩) <| .bi rfl <| .z ?_
   refine .cond (t := decide ((j : Int) < (e.ints.length : Int))) rfl (fun c1 => ?_) (fun c1 => ?_)
   ·have c1 := of_decide_eq_true c1
    refine .skip <| .seq <| .block <| .seq ?_
    refine .regD (X := Unit) (by kernel_rfl) (fun ζ => .of [(2, .one (.ptr [2] (k6) 0)), (3, .one (.ptr [3] (k6 + 1) 0)), (5, .one (.d (.v (.int .i64 ((j : Int)))))), (29, .one (.d (.v (.bool (!(Iv.has (e.ints.getD j default) (s.ints.getD j default)))))))] [([2], (k6, k6, .box [.d (.v (.bool (e.live))), .d (.sl false 182 2 (List.map Iv.c (e.ints))), .d (.sl false 182 2 (List.map Iv.c (e.arrs)))])), ([3], (k6 + 1, k6 + 1, .box [.d (.sl false 2 1 (List.map i64c (s.ints))), .d (.sl false 4 1 (List.map boolc (s.flags))), .d (.sl false 64 1 (List.map slc64 (s.arrs)))]))]) [⟨[2], some 18, [], []⟩, ⟨[18], some 19, [[2]], []⟩, ⟨[5], some 20, [], []⟩, ⟨[19, 20], some 21, [], []⟩, ⟨[21], some 22, [], []⟩, ⟨[3], some 23, [], []⟩, ⟨[23], some 24, [[3]], []⟩, ⟨[5], some 25, [], []⟩, ⟨[24, 25], some 26, [], []⟩, ⟨[26], some 27, [], []⟩, ⟨[22, 27], some 28, [], []⟩, ⟨[28], some 29, [], []⟩] (by kernel_rfl) (fun k12 => ?_) ?_
    ·skip
     refine .fieldAddrP (.no rfl) rfl t106 rfl rfl t104 rfl rfl rfl rfl <| .load (.no rfl) rfl t104 rfl rfl (.ptr _ _ _ _ _ rfl) rfl rfl rfl rfl <| .move (.no rfl) rfl rfl rfl rfl <| .indexAddr (.no rfl) rfl (j) t104 rfl t182 rfl rfl rfl (.d _ _) rfl rfl rfl (map_get (by omega)) rfl rfl <| .load (.no rfl) rfl t182 rfl rfl (.d _) rfl rfl rfl rfl <| .fieldAddrP (.no rfl) rfl t74 rfl rfl t64 rfl rfl rfl rfl <| .load (.no rfl) rfl t64 rfl rfl (.ptr _ _ _ _ _ rfl) rfl rfl rfl rfl <| .move (.no rfl) rfl rfl rfl rfl <| .indexAddr (.no rfl) rfl (j) t64 rfl t2 rfl rfl rfl (.d _ _) rfl rfl rfl (map_get (by omega)) rfl rfl ?_
     refine .load (.no rfl) rfl t2 rfl rfl (.d _) rfl rfl rfl rfl <| .call (.no rfl) rfl [] [] (c_sIvHas (e.ints.getD j default) (s.ints.getD j default)) rfl rfl rfl rfl rfl (.dd (.dd (.dd .nil))) rfl rfl (fun h => absurd rfl h) (.own [28, 0] .nil) (.nil) rfl rfl rfl (by simp) rfl rfl rfl <| .un (.no rfl) rfl rfl rfl rfl rfl ?_
     exact .fin () (.of (.r rfl) (.r rfl))
    intro _
    refine .cond (t := !(Iv.has (e.ints.getD j default) (s.ints.getD j default))) rfl (fun c2 => ?_) (fun c2 => ?_)
    ·have c2 := (nT id) c2
     refine .seq <| .rs fun k13 => .as rfl <| .z <| .ret ?_
     exact fin0 (.inr rfl) (.one (svB (show (false) = (Env.has e s) by (rw [Env.has_int (j := j) (by omega) c2]))) .nil) (.dd .nil) rfl
    ·have c2 := (nF id) c2
     refine .skip <| .rs fun k15 => .mv rfl <| .bi rfl <| .as rfl <| .z ?_
     exact .here (j + 1) (.of (.cons rfl (.cons rfl (.cons (svI (show (IntKind.wrap .i64 ((j : Int) + 1)) = (((j + 1) : Int)) by first | rfl | omega | exact wrap_le (by omega) (by omega) | (rw [wrap_le (by omega) (by omega)]; omega))) .nil))) (.r rfl)) ⟨(show (j + 1) ≤ e.ints.length ∧ allTo (j + 1) (fun x => Iv.has (e.ints.getD x default) (s.ints.getD x default)) = true by exact ⟨by omega, allTo_step hI.2 c2⟩), (show e.ints.length - (j + 1) < e.ints.length - j by omega)⟩
   ·have c1 := of_decide_eq_false c1
    refine .exit <| .seq <| .seq <| .rs fun k16 => .as rfl <| .z <| .block ?_
    refine .loop (X := Nat) (fun ζ => .of [(2, .one (.ptr [2] (k6) 0)), (3, .one (.ptr [3] (k6 + 1) 0)), (6, .one (.d (.v (.int .i64 ((ζ : Int))))))] [([2], (k6, k6, .box [.d (.v (.bool (e.live))), .d (.sl false 182 2 (List.map Iv.c (e.ints))), .d (.sl false 182 2 (List.map Iv.c (e.arrs)))])), ([3], (k6 + 1, k6 + 1, .box [.d (.sl false 2 1 (List.map i64c (s.ints))), .d (.sl false 4 1 (List.map boolc (s.flags))), .d (.sl false 64 1 (List.map slc64 (s.arrs)))]))]) (fun ζ => ζ ≤ e.arrs.length ∧ allTo ζ (fun x => (s.arrs.getD x default).all (Iv.has (e.arrs.getD x default))) = true) (fun ζ => e.arrs.length - ζ) ?_ ?_
    ·skip
     exact .here 0 (.of (.cons rfl (.cons rfl (.cons (svI (show (0) = ((0 : Int)) by first | rfl | omega | exact wrap_le (by omega) (by omega) | (rw [wrap_le (by omega) (by omega)]; omega))) .nil))) (.r rfl)) (show 0 ≤ e.arrs.length ∧ allTo 0 (fun x => (s.arrs.getD x default).all (Iv.has (e.arrs.getD x default))) = true by exact ⟨by omega, rfl⟩)
    ·rintro i hI
     have hI : i ≤ e.arrs.length ∧ allTo i (fun x => (s.arrs.getD x default).all (Iv.has (e.arrs.getD x default))) = true := hI
     have hI0 := ‹j ≤ e.ints.length ∧ _›
     refine .seq <| .seq <| .rs fun k17 => .mv rfl <| .fp t106 t104 rfl <| .ld t104 rfl (.ptr _ _ _ _ _ rfl) rfl <| .g (fun _ τ => ⟨_, .len (.no rfl) rfl (z := (e.arrs.length : Int)) t104 rfl rfl rfl (.d _ _) (map_len _ _) rfl τ⟩) <| .bi rfl <| .z ?_
     refine .cond (t := decide ((i : Int) < (e.arrs.length : Int))) rfl (fun c3 => ?_) (fun c3 => ?_)
     ·have c3 := of_decide_eq_true c3
      refine .skip <| .seq <| .block <| .seq <| .rs fun k18 => .as rfl <| .z <| .block ?_
      refine .loop (X := Nat) (fun ζ => .of [(2, .one (.ptr [2] (k6) 0)), (3, .one (.ptr [3] (k6 + 1) 0)), (6, .one (.d (.v (.int .i64 ((i : Int)))))), (7, .one (.d (.v (.int .i64 ((ζ : Int))))))] [([2], (k6, k6, .box [.d (.v (.bool (e.live))), .d (.sl false 182 2 (List.map Iv.c (e.ints))), .d (.sl false 182 2 (List.map Iv.c (e.arrs)))])), ([3], (k6 + 1, k6 + 1, .box [.d (.sl false 2 1 (List.map i64c (s.ints))), .d (.sl false 4 1 (List.map boolc (s.flags))), .d (.sl false 64 1 (List.map slc64 (s.arrs)))]))]) (fun ζ => ζ ≤ (s.arrs.getD i default).length ∧ allTo ζ (fun x => Iv.has (e.arrs.getD i default) ((s.arrs.getD i default).getD x default)) = true) (fun ζ => (s.arrs.getD i default).length - ζ) ?_ ?_
      ·skip
       exact .here 0 (.of (.cons rfl (.cons rfl (.cons rfl (.cons (svI (show (0) = ((0 : Int)) by first | rfl | omega | exact wrap_le (by omega) (by omega) | (rw [wrap_le (by omega) (by omega)]; omega))) .nil)))) (.r rfl)) (show 0 ≤ (s.arrs.getD i default).length ∧ allTo 0 (fun x => Iv.has (e.arrs.getD i default) ((s.arrs.getD i default).getD x default)) = true by exact ⟨by omega, rfl⟩)
      ·rintro q hI
       have hI : q ≤ (s.arrs.getD i default).length ∧ allTo q (fun x => Iv.has (e.arrs.getD i default) ((s.arrs.getD i default).getD x default)) = true := hI
       have hI1 := ‹i ≤ e.arrs.length ∧ _›
       have hS9 := hst.2.2.2 _ (getD_mem (a := s.arrs) (j := i) (by omega))
       refine .seq <| .seq <| .rs fun k19 => .mv rfl <| .fp t74 t66 rfl <| .ld t66 rfl (.ptr _ _ _ _ _ rfl) rfl <| .mv rfl <| .g (fun _ τ => ⟨_, .indexAddr (.no rfl) rfl (i) t66 rfl t64 rfl rfl rfl (.d _ _) rfl rfl rfl (map_get (by omega)) rfl rfl τ⟩) <| .ld t64 rfl (.d _) rfl ?_
       refine .g (fun _ τ => ⟨_, .len (.no rfl) rfl (z := ((s.arrs.getD i default).length : Int)) t64 rfl rfl rfl (.d _ _) (map_len _ _) rfl τ⟩) <| .bi rfl <| .z ?_
       refine .cond (t := decide ((q : Int) < ((s.arrs.getD i default).length : Int))) rfl (fun c4 => ?_) (fun c4 => ?_)
       ·have c4 := of_decide_eq_true c4
        refine .skip <| .seq <| .block <| .seq ?_
        refine .regD (X := Unit) (by kernel_rfl) (fun ζ => .of [(2, .one (.ptr [2] (k6) 0)), (3, .one (.ptr [3] (k6 + 1) 0)), (6, .one (.d (.v (.int .i64 ((i : Int)))))), (7, .one (.d (.v (.int .i64 ((q : Int)))))), (61, .one (.d (.v (.bool (!(Iv.has (e.arrs.getD i default) ((s.arrs.getD i default).getD (q) default)))))))] [([2], (k6, k6, .box [.d (.v (.bool (e.live))), .d (.sl false 182 2 (List.map Iv.c (e.ints))), .d (.sl false 182 2 (List.map Iv.c (e.arrs)))])), ([3], (k6 + 1, k6 + 1, .box [.d (.sl false 2 1 (List.map i64c (s.ints))), .d (.sl false 4 1 (List.map boolc (s.flags))), .d (.sl false 64 1 (List.map slc64 (s.arrs)))]))]) [⟨[2], some 47, [], []⟩, ⟨[47], some 48, [[2]], []⟩, ⟨[6], some 49, [], []⟩, ⟨[48, 49], some 50, [], []⟩, ⟨[50], some 51, [], []⟩, ⟨[3], some 52, [], []⟩, ⟨[52], some 53, [[3]], []⟩, ⟨[6], some 54, [], []⟩, ⟨[53, 54], some 55, [], []⟩, ⟨[55], some 56, [], []⟩, ⟨[7], some 57, [], []⟩, ⟨[56, 57], some 58, [], []⟩, ⟨[58], some 59, [], []⟩, ⟨[51, 59], some 60, [], []⟩, ⟨[60], some 61, [], []⟩] (by kernel_rfl) (fun k20 => ?_) ?_
        ·skip
         refine .fieldAddrP (.no rfl) rfl t106 rfl rfl t104 rfl rfl rfl rfl <| .load (.no rfl) rfl t104 rfl rfl (.ptr _ _ _ _ _ rfl) rfl rfl rfl rfl <| .move (.no rfl) rfl rfl rfl rfl <| .indexAddr (.no rfl) rfl (i) t104 rfl t182 rfl rfl rfl (.d _ _) rfl rfl rfl (map_get (by omega)) rfl rfl <| .load (.no rfl) rfl t182 rfl rfl (.d _) rfl rfl rfl rfl <| .fieldAddrP (.no rfl) rfl t74 rfl rfl t66 rfl rfl rfl rfl <| .load (.no rfl) rfl t66 rfl rfl (.ptr _ _ _ _ _ rfl) rfl rfl rfl rfl <| .move (.no rfl) rfl rfl rfl rfl <| .indexAddr (.no rfl) rfl (i) t66 rfl t64 rfl rfl rfl (.d _ _) rfl rfl rfl (map_get (by omega)) rfl rfl ?_
         refine .load (.no rfl) rfl t64 rfl rfl (.d _) rfl rfl rfl rfl <| .move (.no rfl) rfl rfl rfl rfl <| .indexAddr (.no rfl) rfl (q) t64 rfl t2 rfl rfl rfl (.d _ _) rfl rfl rfl (map_get (by omega)) rfl rfl <| .load (.no rfl) rfl t2 rfl rfl (.d _) rfl rfl rfl rfl <| .call (.no rfl) rfl [] [] (c_sIvHas (e.arrs.getD i default) ((s.arrs.getD i default).getD (q) default)) rfl rfl rfl rfl rfl (.dd (.dd (.dd .nil))) rfl rfl (fun h => absurd rfl h) (.own [60, 0] .nil) (.nil) rfl rfl rfl (by simp) rfl rfl rfl <| .un (.no rfl) rfl rfl rfl rfl rfl ?_
         exact .fin () (.of (.r rfl) (.r rfl))
        intro _
        refine .cond (t := !(Iv.has (e.arrs.getD i default) ((s.arrs.getD i default).getD (q) default))) rfl (fun c5 => ?_) (fun c5 => ?_)
        ·have c5 := (nT id) c5
         refine .seq <| .rs fun k21 => .as rfl <| .z <| .ret ?_
         exact fin0 (.inr rfl) (.one (svB (show (false) = (Env.has e s) by (rw [Env.has_arr (j := i) (by omega) (all_none (j := q) (by omega) c5)]))) .nil) (.dd .nil) rfl
        ·have c5 := (nF id) c5
         refine .skip <| .rs fun k23 => .mv rfl <| .bi rfl <| .as rfl <| .z ?_
         exact .here (q + 1) (.of (.cons rfl (.cons rfl (.cons rfl (.cons (svI (show (IntKind.wrap .i64 ((q : Int) + 1)) = (((q + 1) : Int)) by first | rfl | omega | exact wrap_le (by omega) (by omega) | (rw [wrap_le (by omega) (by omega)]; omega))) .nil)))) (.r rfl)) ⟨(show (q + 1) ≤ (s.arrs.getD i default).length ∧ allTo (q + 1) (fun x => Iv.has (e.arrs.getD i default) ((s.arrs.getD i default).getD x default)) = true by exact ⟨by omega, allTo_step hI.2 c5⟩), (show (s.arrs.getD i default).length - (q + 1) < (s.arrs.getD i default).length - q by omega)⟩
       ·have c4 := of_decide_eq_false c4
        refine .exit <| .rs fun k24 => .mv rfl <| .bi rfl <| .as rfl <| .z ?_
        exact .here (i + 1) (.of (.cons rfl (.cons rfl (.cons (svI (show (IntKind.wrap .i64 ((i : Int) + 1)) = (((i + 1) : Int)) by first | rfl | omega | exact wrap_le (by omega) (by omega) | (rw [wrap_le (by omega) (by omega)]; omega))) .nil))) (.r rfl)) ⟨(show (i + 1) ≤ e.arrs.length ∧ allTo (i + 1) (fun x => (s.arrs.getD x default).all (Iv.has (e.arrs.getD x default))) = true by exact ⟨by omega, allTo_step hI1.2 (all_done (j := q) (by omega) hI.2)⟩), (show e.arrs.length - (i + 1) < e.arrs.length - i by omega)⟩
     ·have c3 := of_decide_eq_false c3
      refine .exit <| .seq <| .rs fun k25 => .as rfl <| .z <| .ret ?_
      exact fin0 (.inr rfl) (.one (svB (show (true) = (Env.has e s) by (rw [Env.has_done c0 (i := j) (by omega) hI0.2 (j := i) (by omega) hI.2]))) .nil) (.dd .nil) rfl
end Go.Proofs

namespace Go.Proofs
open Go Go.Proofs Go.Ev

def i174 : TI := ⟨.int .u64, 1, 8, [.int .u64 0]⟩
theorem t174 : TyOk Tryz.prog 174 i174 := ⟨Tryz.underlying174, by kernel_rfl⟩
theorem z174 : ZOk Tryz.prog 174 i174 := ⟨t174, rfl⟩
theorem c_l5One (b : Bool) : Trip Tryz.prog 79 [(false, 1)] ([.v (.bool (b))]) [(false, 1)] [.v (.int .i64 (truthN b))] [] := by
 refine Trip.of Tryz.func79 (by decide) (c := _) rfl rfl (shB_ok rfl) (Nat.le_of_ble_eq_true rfl) rfl (AftOk.nil _) <| .seq <| .rs fun k1 => .as rfl <| .z <| .seq <| .seq <| .rs fun k2 => .mv rfl ?_
 refine .z ?_
 refine .cond (t := b) rfl (fun c0 => ?_) (fun c0 => ?_)
 ·have c0 := c0
  refine .seq <| .rs fun k3 => .as rfl <| .z <| .ret ?_
  exact fin0 (.inr rfl) (.one (svI (show (1) = (truthN b) by (rw [c0]; rfl))) .nil) (.dd .nil) rfl
 ·have c0 := c0
  refine .skip <| .seq <| .rs fun k5 => .as rfl <| .z <| .ret ?_
  exact fin0 (.inr rfl) (.one (svI (show (0) = (truthN b) by (rw [c0]; rfl))) .nil) (.dd .nil) rfl
theorem c_truth (b : Bool) : Trip Tryz.prog 80 [(false, 1)] ([.v (.bool (b))]) [(false, 1)] [.v (.int .i64 (truthN b))] [] := by
 refine Trip.of Tryz.func80 (by decide) (c := _) rfl rfl (shB_ok rfl) (Nat.le_of_ble_eq_true rfl) rfl (AftOk.nil _) <| .seq <| .rs fun k1 => .as rfl <| .z <| .seq <| .seq <| .rs fun k2 => .mv rfl ?_
 refine .z ?_
 refine .cond (t := b) rfl (fun c0 => ?_) (fun c0 => ?_)
 ·have c0 := c0
  refine .seq <| .rs fun k3 => .as rfl <| .z <| .ret ?_
  exact fin0 (.inr rfl) (.one (svI (show (1) = (truthN b) by (rw [c0]; rfl))) .nil) (.dd .nil) rfl
 ·have c0 := c0
  refine .skip <| .seq <| .rs fun k5 => .as rfl <| .z <| .ret ?_
  exact fin0 (.inr rfl) (.one (svI (show (0) = (truthN b) by (rw [c0]; rfl))) .nil) (.dd .nil) rfl
theorem c_l8Leaf (s : Store) (hl : s.flags.length ≤ 3) : Trip Tryz.prog 109 [(true, 3)] (Store.c74 s) [(false, 1)] [.v (.int .i64 (leafN s.flags))] [] := by
 refine Trip.of Tryz.func109 (by decide) (c := _) rfl rfl (shB_ok rfl) (Nat.le_of_ble_eq_true rfl) rfl (AftOk.nil _) <| .sla (t := 0) 0 rfl rfl fun hs1l => .sla (t := 0) 1 rfl rfl fun hs2l => .sla (t := 0) 2 rfl rfl fun hs3l => .seq <| .rs fun k4 => .g (fun _ τ => ⟨_, .box (.no rfl) rfl rfl rfl rfl rfl τ⟩) <| .as rfl <| .z ?_
 refine .seq <| .rs fun k5 => .as rfl <| .z <| .seq <| .seq <| .rs fun k6 => .as rfl <| .z ?_
 refine .block ?_
 refine .loop (X := Nat) (fun ζ => .of [(1, .one (.ptr [1] (k4) 0)), (3, .one (.d (.v (.int .i64 (leafTo s.flags ζ))))), (4, .one (.d (.v (.int .i64 ((ζ : Int))))))] [([1], (k4, k4, .box [.d (.sl false 2 1 (List.map i64c (s.ints))), .d (.sl false 4 1 (List.map boolc (s.flags))), .d (.sl false 64 1 (List.map slc64 (s.arrs)))]))]) (fun ζ => ζ ≤ s.flags.length) (fun ζ => s.flags.length - ζ) ?_ ?_
 ·skip
  exact .here 0 (.of (.cons rfl (.cons (svI (show (0) = (leafTo s.flags 0) by first | rfl | omega | exact leaf_add (by omega) | exact leaf_or (by omega) | exact wrap_le (by omega) (by omega) | (rw [wrap_le (by omega) (by omega)]; omega))) (.cons (svI (show (0) = ((0 : Int)) by first | rfl | omega | exact leaf_add (by omega) | exact leaf_or (by omega) | exact wrap_le (by omega) (by omega) | (rw [wrap_le (by omega) (by omega)]; omega))) .nil))) (.r rfl)) (show 0 ≤ s.flags.length by omega)
 ·rintro j hI
  have hI : j ≤ s.flags.length := hI
  refine .seq <| .seq <| .rs fun k7 => .mv rfl <| .fp t74 t65 rfl <| .ld t65 rfl (.ptr _ _ _ _ _ rfl) rfl <| .g (fun _ τ => ⟨_, .len (.no rfl) rfl (z := (s.flags.length : Int)) t65 rfl rfl rfl (.d _ _) (map_len _ _) rfl τ⟩) <| .bi rfl <| .z ?_
  refine .cond (t := decide ((j : Int) < (s.flags.length : Int))) rfl (fun c0 => ?_) (fun c0 => ?_)
  ·have c0 := of_decide_eq_true c0
   refine .skip <| .seq <| .block <| .rs fun k8 => .mv rfl <| .fp t74 t65 rfl <| .ld t65 rfl (.ptr _ _ _ _ _ rfl) rfl <| .mv rfl <| .g (fun _ τ => ⟨_, .indexAddr (.no rfl) rfl (j) t65 rfl t4 rfl rfl rfl (.d _ _) rfl rfl rfl (map_get (by omega)) rfl rfl τ⟩) ?_
   refine .ld t4 rfl (.d _) rfl <| .c0 (c_l5One (s.flags.getD j default)) rfl (.dd .nil) (.own [18, 0] .nil) rfl <| .mv rfl <| .g (fun _ τ => ⟨_, .conv (.no rfl) rfl (z' := (j : Int)) t3 t174 rfl rfl rfl rfl (wrap_u64 (by omega) (by omega)) rfl τ⟩) <| .g (fun _ τ => ⟨_, .shl (.no rfl) rfl rfl rfl rfl (by omega) rfl rfl τ⟩) <| .bi rfl <| .as rfl <| .z <| .rs fun k9 => ?_
   refine .mv rfl <| .bi rfl <| .as rfl <| .z ?_
   exact .here (j + 1) (.of (.cons rfl (.cons (svI (show (IntKind.wrap .i64 ((leafTo s.flags j) + (IntKind.wrap .i64 ((truthN (s.flags.getD j default)) * 2 ^ (min ((j : Int)).toNat (IntKind.bits .i64)))))) = (leafTo s.flags (j + 1)) by first | rfl | omega | exact leaf_add (by omega) | exact leaf_or (by omega) | exact wrap_le (by omega) (by omega) | (rw [wrap_le (by omega) (by omega)]; omega))) (.cons (svI (show (IntKind.wrap .i64 ((j : Int) + 1)) = (((j + 1) : Int)) by first | rfl | omega | exact leaf_add (by omega) | exact leaf_or (by omega) | exact wrap_le (by omega) (by omega) | (rw [wrap_le (by omega) (by omega)]; omega))) .nil))) (.r rfl)) ⟨(show (j + 1) ≤ s.flags.length by omega), (show s.flags.length - (j + 1) < s.flags.length - j by omega)⟩
  ·have c0 := of_decide_eq_false c0
   refine .exit <| .seq <| .rs fun k10 => .mv rfl <| .as rfl <| .z <| .ret ?_
   exact fin0 (.inr rfl) (.one (svI (show (leafTo s.flags j) = (leafN s.flags) by exact leafN_len (by omega) hI)) .nil) (.dd .nil) rfl
theorem c_leafOf (l : List Bool) (hl : l.length ≤ 3) : Trip Tryz.prog 168 [(false, 1)] ([.sl false 4 1 (List.map boolc (l))]) [(false, 1)] [.v (.int .i64 (leafN l))] [] := by
 refine Trip.of Tryz.func168 (by decide) (c := _) rfl rfl (shB_ok rfl) (Nat.le_of_ble_eq_true rfl) rfl (AftOk.nil _) <| .sl (t := 0) rfl fun hs1l => .seq <| .rs fun k2 => .as rfl <| .z <| .seq <| .rs fun k3 => .as rfl ?_
 refine .z <| .seq <| .seq <| .rs fun k4 => .mv rfl <| .g (fun _ τ => ⟨_, .len (.no rfl) rfl (z := (l.length : Int)) t65 rfl rfl rfl (.d _ _) (map_len _ _) rfl τ⟩) <| .mv rfl <| .z <| .block ?_
 refine .loop (X := Nat) (fun ζ => .of [(3, .one (.d (.v (.int .i64 (leafTo l ζ))))), (6, .one (.d (.sl false 4 1 (List.map boolc (l))))), (7, .one (.d (.v (.int .i64 ((l.length : Int)))))), (8, .one (.d (.v (.int .i64 ((ζ : Int))))))] []) (fun ζ => ζ ≤ l.length) (fun ζ => l.length - ζ) ?_ ?_
 ·skip
  exact .here 0 (.of (.cons (svI (show (0) = (leafTo l 0) by first | rfl | omega | exact leaf_add (by omega) | exact leaf_or (by omega) | exact wrap_le (by omega) (by omega) | (rw [wrap_le (by omega) (by omega)]; omega))) (.cons rfl (.cons rfl (.cons (svI (show (0) = ((0 : Int)) by first | rfl | omega | exact leaf_add (by omega) | exact leaf_or (by omega) | exact wrap_le (by omega) (by omega) | (rw [wrap_le (by omega) (by omega)]; omega))) .nil)))) .nil) (show 0 ≤ l.length by omega)
 ·rintro j hI
  have hI : j ≤ l.length := hI
  refine .seq <| .rs fun k5 => .bi rfl <| .z <| .seq ?_
  refine .cond (t := decide ((j : Int) < (l.length : Int))) rfl (fun c0 => ?_) (fun c0 => ?_)
  ·have c0 := of_decide_eq_true c0
   refine .skip <| .seq <| .block <| .seq <| .rs fun k6 => .mv rfl <| .g (fun _ τ => ⟨_, .indexAddr (.no rfl) rfl (j) t65 rfl t4 rfl rfl rfl (.d _ _) rfl rfl rfl (map_get (by omega)) rfl rfl τ⟩) <| .ld t4 rfl (.d _) rfl <| .as rfl ?_
   refine .as rfl <| .z <| .rs fun k7 => .mv rfl <| .mv rfl <| .c0 (c_truth (l.getD j default)) rfl (.dd .nil) (.own [15, 0] .nil) rfl <| .mv rfl <| .g (fun _ τ => ⟨_, .shl (.no rfl) rfl rfl rfl rfl (by omega) rfl rfl τ⟩) <| .bi rfl ?_
   refine .as rfl <| .z <| .rs fun k8 => .bi rfl <| .mv rfl <| .z ?_
   exact .here (j + 1) (.of (.cons (svI (show (IntKind.wrap .i64 ((BitVec.ofInt (IntKind.bits .i64) (leafTo l j) ||| BitVec.ofInt (IntKind.bits .i64) (IntKind.wrap .i64 ((truthN (l.getD j default)) * 2 ^ (min ((j : Int)).toNat (IntKind.bits .i64))))).toNat : Int)) = (leafTo l (j + 1)) by first | rfl | omega | exact leaf_add (by omega) | exact leaf_or (by omega) | exact wrap_le (by omega) (by omega) | (rw [wrap_le (by omega) (by omega)]; omega))) (.cons rfl (.cons rfl (.cons (svI (show (IntKind.wrap .i64 ((j : Int) + 1)) = (((j + 1) : Int)) by first | rfl | omega | exact leaf_add (by omega) | exact leaf_or (by omega) | exact wrap_le (by omega) (by omega) | (rw [wrap_le (by omega) (by omega)]; omega))) .nil)))) .nil) ⟨(show (j + 1) ≤ l.length by omega), (show l.length - (j + 1) < l.length - j by omega)⟩
  ·have c0 := of_decide_eq_false c0
   refine .exit <| .seq <| .rs fun k9 => .mv rfl <| .as rfl <| .z <| .ret ?_
   exact fin0 (.inr rfl) (.one (svI (show (leafTo l j) = (leafN l) by exact leafN_len (by omega) hI)) .nil) (.dd .nil) rfl
end Go.Proofs

namespace Go.Proofs
open Go Go.Proofs Go.Ev

def Entry.c (x : Entry) : List D := [.v (.int .i64 (x.line)), .v (.int .i64 (x.pick))]
theorem Entry.c_o (x : Entry) : ∀ d ∈ Entry.c x, Owned d := by simp [Entry.c, Owned.v]
theorem Entry.c_e (x : Entry) : (Entry.c x).map D.erase = Entry.c x := by simp [Entry.c, D.erase_v]
def Store.c68 (x : Store) : List D := [.sl false 2 1 (List.map i64c (x.ints)), .sl false 4 1 (List.map boolc (x.flags)), .sl false 64 1 (List.map slc64 (x.arrs))]
theorem Store.c68_e (x : Store) : (Store.c68 x).map D.erase = Store.c68 x := by simp [Store.c68, D.erase_v, erase_slo _ _ _ _ _ _ i64c_e, erase_slo _ _ _ _ _ _ boolc_e, erase_slo _ _ _ _ _ _ slc64_e]
def Store.co68 (x : Store) : List D := [.sl true 2 1 (List.map i64c (x.ints)), .sl true 4 1 (List.map boolc (x.flags)), .sl true 64 1 (List.map slco64 (x.arrs))]
theorem Store.co68_e (x : Store) : (Store.co68 x).map D.erase = Store.c68 x := by simp [Store.co68, Store.c68, D.erase_v, erase_slo _ _ _ _ _ _ i64c_e, erase_slo _ _ _ _ _ _ boolc_e, erase_slo _ _ _ _ _ _ slco64_e]
theorem Store.co68_o (x : Store) : ∀ d ∈ Store.co68 x, Owned d := by simp [Store.co68, Owned.v, Owned.map _ _ _ _ i64c_o, Owned.map _ _ _ _ boolc_o, Owned.map _ _ _ _ slco64_o]
def Part.c118 (x : Part) : List D := [.sl false 147 2 (List.map Entry.c (x.token)), .sl false 100 3 (List.map Env.c100 (x.table))]
theorem Part.c118_e (x : Part) : (Part.c118 x).map D.erase = Part.c118 x := by simp [Part.c118, D.erase_v, erase_slo _ _ _ _ _ _ Entry.c_e, erase_slo _ _ _ _ _ _ Env.c100_e]
def Part.co118 (x : Part) : List D := [.sl true 147 2 (List.map Entry.c (x.token)), .sl true 100 3 (List.map Env.co100 (x.table))]
theorem Part.co118_e (x : Part) : (Part.co118 x).map D.erase = Part.c118 x := by simp [Part.co118, Part.c118, D.erase_v, erase_slo _ _ _ _ _ _ Entry.c_e, erase_slo _ _ _ _ _ _ Env.co100_e]
theorem Part.co118_o (x : Part) : ∀ d ∈ Part.co118 x, Owned d := by simp [Part.co118, Owned.v, Owned.map _ _ _ _ Entry.c_o, Owned.map _ _ _ _ Env.co100_o]
def i43 : TI := ⟨.sl 100, 1, 24, [.slice none 0 0]⟩
theorem t43 : TyOk Tryz.prog 43 i43 := ⟨Tryz.underlying43, by kernel_rfl⟩
theorem z43 : ZOk Tryz.prog 43 i43 := ⟨t43, rfl⟩
def i54 : TI := ⟨.sl 118, 1, 24, [.slice none 0 0]⟩
theorem t54 : TyOk Tryz.prog 54 i54 := ⟨Tryz.underlying54, by kernel_rfl⟩
theorem z54 : ZOk Tryz.prog 54 i54 := ⟨t54, rfl⟩
def i63 : TI := ⟨.sl 147, 1, 24, [.slice none 0 0]⟩
theorem t63 : TyOk Tryz.prog 63 i63 := ⟨Tryz.underlying63, by kernel_rfl⟩
theorem z63 : ZOk Tryz.prog 63 i63 := ⟨t63, rfl⟩
def i68 : TI := ⟨.st [(0, 64), (1, 65), (2, 66)], 3, 72, [.slice none 0 0, .slice none 0 0, .slice none 0 0]⟩
theorem t68 : TyOk Tryz.prog 68 i68 := ⟨⟨_, Tryz.underlying68, rfl⟩, by kernel_rfl⟩
theorem z68 : ZOk Tryz.prog 68 i68 := ⟨t68, rfl⟩
theorem p68 : Places Tryz.prog [(0, 64), (1, 65), (2, 66)] [(0, 1), (1, 1), (2, 1)] := by unfold Places; kernel_rfl
def i118 : TI := ⟨.st [(0, 63), (1, 43)], 2, 48, [.slice none 0 0, .slice none 0 0]⟩
theorem t118 : TyOk Tryz.prog 118 i118 := ⟨⟨_, Tryz.underlying118, rfl⟩, by kernel_rfl⟩
theorem z118 : ZOk Tryz.prog 118 i118 := ⟨t118, rfl⟩
theorem p118 : Places Tryz.prog [(0, 63), (1, 43)] [(0, 1), (1, 1)] := by unfold Places; kernel_rfl
theorem c_szInt64S (a : List Int) (left : Int) (hl : 0 ≤ left ∧ left ≤ 1048576) : Trip Tryz.prog 102 [(false, 1), (false, 1)] ([.sl false 2 1 (List.map i64c (a))] ++ [.v (.int .i64 (left))]) [(false, 1)] [.v (.int .i64 (szPl a left))] [] := by
 refine Trip.of Tryz.func102 (by decide) (c := _) rfl rfl (shB_ok rfl) (Nat.le_of_ble_eq_true rfl) rfl (AftOk.nil _) <| .sl (t := 0) rfl fun hs1l => .seq <| .rs fun k2 => .as rfl <| .z <| .seq <| .rs fun k3 => .mv rfl ?_
 refine .mv rfl <| .g (fun _ τ => ⟨_, .len (.no rfl) rfl (z := (a.length : Int)) t64 rfl rfl rfl (.d _ _) (map_len _ _) rfl τ⟩) <| .bi rfl <| .as rfl <| .z <| .seq <| .seq <| .rs fun k4 => .mv rfl ?_
 refine .bi rfl <| .z ?_
 refine .cond (t := decide ((IntKind.wrap .i64 (left - (a.length : Int))) < 0)) rfl (fun c0 => ?_) (fun c0 => ?_)
 ·have c0 := of_decide_eq_true c0
  refine .seq <| .rs fun k5 => .as rfl <| .z <| .ret ?_
  exact fin0 (.inr rfl) (.one (svI (show (-1) = (szPl a left) by (rw [wrap_le (by omega) (by omega)] at c0; simp only [szPl]; rw [if_pos c0]))) .nil) (.dd .nil) rfl
 ·have c0 := of_decide_eq_false c0
  refine .skip <| .seq <| .rs fun k7 => .mv rfl <| .as rfl <| .z <| .ret ?_
  exact fin0 (.inr rfl) (.one (svI (show (IntKind.wrap .i64 (left - (a.length : Int))) = (szPl a left) by (rw [wrap_le (by omega) (by omega)] at c0 ⊢; simp only [szPl]; rw [if_neg c0]))) .nil) (.dd .nil) rfl
theorem c_szBoolS (a : List Bool) (left : Int) (hl : 0 ≤ left ∧ left ≤ 1048576) : Trip Tryz.prog 103 [(false, 1), (false, 1)] ([.sl false 4 1 (List.map boolc (a))] ++ [.v (.int .i64 (left))]) [(false, 1)] [.v (.int .i64 (szPl a left))] [] := by
 refine Trip.of Tryz.func103 (by decide) (c := _) rfl rfl (shB_ok rfl) (Nat.le_of_ble_eq_true rfl) rfl (AftOk.nil _) <| .sl (t := 0) rfl fun hs1l => .seq <| .rs fun k2 => .as rfl <| .z <| .seq <| .rs fun k3 => .mv rfl ?_
 refine .mv rfl <| .g (fun _ τ => ⟨_, .len (.no rfl) rfl (z := (a.length : Int)) t65 rfl rfl rfl (.d _ _) (map_len _ _) rfl τ⟩) <| .bi rfl <| .as rfl <| .z <| .seq <| .seq <| .rs fun k4 => .mv rfl ?_
 refine .bi rfl <| .z ?_
 refine .cond (t := decide ((IntKind.wrap .i64 (left - (a.length : Int))) < 0)) rfl (fun c0 => ?_) (fun c0 => ?_)
 ·have c0 := of_decide_eq_true c0
  refine .seq <| .rs fun k5 => .as rfl <| .z <| .ret ?_
  exact fin0 (.inr rfl) (.one (svI (show (-1) = (szPl a left) by (rw [wrap_le (by omega) (by omega)] at c0; simp only [szPl]; rw [if_pos c0]))) .nil) (.dd .nil) rfl
 ·have c0 := of_decide_eq_false c0
  refine .skip <| .seq <| .rs fun k7 => .mv rfl <| .as rfl <| .z <| .ret ?_
  exact fin0 (.inr rfl) (.one (svI (show (IntKind.wrap .i64 (left - (a.length : Int))) = (szPl a left) by (rw [wrap_le (by omega) (by omega)] at c0 ⊢; simp only [szPl]; rw [if_neg c0]))) .nil) (.dd .nil) rfl
theorem c_szEntryS (a : List Entry) (left : Int) (hl : 0 ≤ left ∧ left ≤ 1048576) : Trip Tryz.prog 39 [(false, 1), (false, 1)] ([.sl false 147 2 (List.map Entry.c (a))] ++ [.v (.int .i64 (left))]) [(false, 1)] [.v (.int .i64 (szPl a left))] [] := by
 refine Trip.of Tryz.func39 (by decide) (c := _) rfl rfl (shB_ok rfl) (Nat.le_of_ble_eq_true rfl) rfl (AftOk.nil _) <| .sl (t := 0) rfl fun hs1l => .seq <| .rs fun k2 => .as rfl <| .z <| .seq <| .rs fun k3 => .mv rfl ?_
 refine .mv rfl <| .g (fun _ τ => ⟨_, .len (.no rfl) rfl (z := (a.length : Int)) t63 rfl rfl rfl (.d _ _) (map_len _ _) rfl τ⟩) <| .bi rfl <| .as rfl <| .z <| .seq <| .seq <| .rs fun k4 => .mv rfl ?_
 refine .bi rfl <| .z ?_
 refine .cond (t := decide ((IntKind.wrap .i64 (left - (a.length : Int))) < 0)) rfl (fun c0 => ?_) (fun c0 => ?_)
 ·have c0 := of_decide_eq_true c0
  refine .seq <| .rs fun k5 => .as rfl <| .z <| .ret ?_
  exact fin0 (.inr rfl) (.one (svI (show (-1) = (szPl a left) by (rw [wrap_le (by omega) (by omega)] at c0; simp only [szPl]; rw [if_pos c0]))) .nil) (.dd .nil) rfl
 ·have c0 := of_decide_eq_false c0
  refine .skip <| .seq <| .rs fun k7 => .mv rfl <| .as rfl <| .z <| .ret ?_
  exact fin0 (.inr rfl) (.one (svI (show (IntKind.wrap .i64 (left - (a.length : Int))) = (szPl a left) by (rw [wrap_le (by omega) (by omega)] at c0 ⊢; simp only [szPl]; rw [if_neg c0]))) .nil) (.dd .nil) rfl
theorem c_szEnvS (a : List Env) (left : Int) (hl : 0 ≤ left ∧ left ≤ 1048576) : Trip Tryz.prog 20 [(false, 1), (false, 1)] ([.sl false 100 3 (List.map Env.c100 (a))] ++ [.v (.int .i64 (left))]) [(false, 1)] [.v (.int .i64 (szEnvS a left))] [] := by
 refine Trip.of Tryz.func20 (by decide) (c := _) rfl rfl (shB_ok rfl) (Nat.le_of_ble_eq_true rfl) rfl (AftOk.nil _) <| .sl (t := 0) rfl fun hs1l => .seq <| .rs fun k2 => .as rfl <| .z <| .seq <| .rs fun k3 => .mv rfl ?_
 refine .mv rfl <| .g (fun _ τ => ⟨_, .len (.no rfl) rfl (z := (a.length : Int)) t43 rfl rfl rfl (.d _ _) (map_len _ _) rfl τ⟩) <| .bi rfl <| .as rfl <| .z <| .seq <| .seq <| .rs fun k4 => .mv rfl ?_
 refine .bi rfl <| .z ?_
 refine .cond (t := decide ((IntKind.wrap .i64 (left - (a.length : Int))) < 0)) rfl (fun c0 => ?_) (fun c0 => ?_)
 ·have c0 := of_decide_eq_true c0
  refine .seq <| .rs fun k5 => .as rfl <| .z <| .ret ?_
  exact fin0 (.inr rfl) (.one (svI (show (-1) = (szEnvS a left) by (rw [wrap_le (by omega) (by omega)] at c0; simp only [szEnvS]; rw [if_pos c0]))) .nil) (.dd .nil) rfl
 ·have c0 := of_decide_eq_false c0
  refine .skip <| .seq <| .seq <| .rs fun k7 => .as rfl <| .z <| .block ?_
  refine .loop (X := Nat × Int) (fun ζ => .of [(0, .one (.d (.sl false 100 3 (List.map Env.c100 (a))))), (1, .one (.d (.v (.int .i64 (ζ.2))))), (5, .one (.d (.v (.int .i64 ((ζ.1 : Int))))))] []) (fun ζ => ζ.1 ≤ a.length ∧ 0 ≤ ζ.2 ∧ ζ.2 ≤ 1048576 ∧ ¬ left - a.length < 0 ∧ szF szEnv ζ.2 (a.drop ζ.1) = szF szEnv (left - a.length) a) (fun ζ => a.length - ζ.1) ?_ ?_
  ·skip
   exact .here (0, (left - a.length)) (.of (.cons rfl (.cons (svI (show (IntKind.wrap .i64 (left - (a.length : Int))) = ((left - a.length)) by first | rfl | omega | exact wrap_le (by omega) (by omega) | (rw [wrap_le (by omega) (by omega)]; omega))) (.cons (svI (show (0) = ((0 : Int)) by first | rfl | omega | exact wrap_le (by omega) (by omega) | (rw [wrap_le (by omega) (by omega)]; omega))) .nil))) .nil) (show 0 ≤ a.length ∧ 0 ≤ (left - a.length) ∧ (left - a.length) ≤ 1048576 ∧ ¬ left - a.length < 0 ∧ szF szEnv (left - a.length) (a.drop 0) = szF szEnv (left - a.length) a by (rw [wrap_le (by omega) (by omega)] at c0; exact ⟨by omega, by omega, by omega, c0, by simp⟩))
  ·rintro ⟨j, v⟩ hI
   have hI : j ≤ a.length ∧ 0 ≤ v ∧ v ≤ 1048576 ∧ ¬ left - a.length < 0 ∧ szF szEnv v (a.drop j) = szF szEnv (left - a.length) a := hI
   dsimp only
   refine .seq <| .seq <| .rs fun k8 => .mv rfl <| .mv rfl <| .g (fun _ τ => ⟨_, .len (.no rfl) rfl (z := (a.length : Int)) t43 rfl rfl rfl (.d _ _) (map_len _ _) rfl τ⟩) <| .bi rfl <| .z ?_
   refine .cond (t := decide ((j : Int) < (a.length : Int))) rfl (fun c1 => ?_) (fun c1 => ?_)
   ·have c1 := of_decide_eq_true c1
    refine .skip <| .seq <| .block <| .seq <| .rs fun k9 => .mv rfl <| .mv rfl <| .g (fun _ τ => ⟨_, .indexAddr (.no rfl) rfl (j) t43 rfl t100 rfl rfl rfl (.d _ _) rfl rfl rfl (map_get (by omega)) rfl rfl τ⟩) <| .lda t100 rfl (.d _) rfl ?_
    refine .mv rfl <| .c0 (c_szEnv (a.getD j default) v (by omega)) rfl (.dd (.dd (.dd (.dd .nil)))) (.own [23, 0] .nil) rfl <| .as rfl <| .z <| .seq <| .rs fun k10 => .mv rfl <| .bi rfl <| .z ?_
    refine .cond (t := decide ((szEnv (a.getD j default) v) < 0)) rfl (fun c2 => ?_) (fun c2 => ?_)
    ·have c2 := of_decide_eq_true c2
     refine .seq <| .rs fun k11 => .as rfl <| .z <| .ret ?_
     exact fin0 (.inr rfl) (.one (svI (show (-1) = (szEnvS a left) by (simp only [szEnvS]; rw [if_neg hI.2.2.2.1, ← hI.2.2.2.2, szF_fail (by omega) c2]))) .nil) (.dd .nil) rfl
    ·have c2 := of_decide_eq_false c2
     refine .skip <| .rs fun k13 => .mv rfl <| .bi rfl <| .as rfl <| .z ?_
     exact .here ((j + 1), (szEnv (a.getD j default) v)) (.of (.cons rfl (.cons (svI (show (szEnv (a.getD j default) v) = ((szEnv (a.getD j default) v)) by first | rfl | omega | exact wrap_le (by omega) (by omega) | (rw [wrap_le (by omega) (by omega)]; omega))) (.cons (svI (show (IntKind.wrap .i64 ((j : Int) + 1)) = (((j + 1) : Int)) by first | rfl | omega | exact wrap_le (by omega) (by omega) | (rw [wrap_le (by omega) (by omega)]; omega))) .nil))) .nil) ⟨(show (j + 1) ≤ a.length ∧ 0 ≤ (szEnv (a.getD j default) v) ∧ (szEnv (a.getD j default) v) ≤ 1048576 ∧ ¬ left - a.length < 0 ∧ szF szEnv (szEnv (a.getD j default) v) (a.drop (j + 1)) = szF szEnv (left - a.length) a by (have hx := szEnv_len ⟨hI.2.1, hI.2.2.1⟩ c2; exact ⟨by omega, by omega, by omega, hI.2.2.2.1, by rw [← hI.2.2.2.2]; exact (szF_step (by omega) c2).symm⟩)), (show a.length - (j + 1) < a.length - j by omega)⟩
   ·have c1 := of_decide_eq_false c1
    refine .exit <| .seq <| .rs fun k14 => .mv rfl <| .as rfl <| .z <| .ret ?_
    exact fin0 (.inr rfl) (.one (svI (show (v) = (szEnvS a left) by (simp only [szEnvS]; rw [if_neg hI.2.2.2.1, ← hI.2.2.2.2, szF_end (by omega)]))) .nil) (.dd .nil) rfl
theorem c_szInt64SS (a : List (List Int)) (left : Int) (hl : 0 ≤ left ∧ left ≤ 1048576) : Trip Tryz.prog 104 [(false, 1), (false, 1)] ([.sl false 64 1 (List.map slc64 (a))] ++ [.v (.int .i64 (left))]) [(false, 1)] [.v (.int .i64 (szSS a left))] [] := by
 refine Trip.of Tryz.func104 (by decide) (c := _) rfl rfl (shB_ok rfl) (Nat.le_of_ble_eq_true rfl) rfl (AftOk.nil _) <| .sl (t := 0) rfl fun hs1l => .seq <| .rs fun k2 => .as rfl <| .z <| .seq <| .rs fun k3 => .mv rfl ?_
 refine .mv rfl <| .g (fun _ τ => ⟨_, .len (.no rfl) rfl (z := (a.length : Int)) t66 rfl rfl rfl (.d _ _) (map_len _ _) rfl τ⟩) <| .bi rfl <| .as rfl <| .z <| .seq <| .seq <| .rs fun k4 => .mv rfl ?_
 refine .bi rfl <| .z ?_
 refine .cond (t := decide ((IntKind.wrap .i64 (left - (a.length : Int))) < 0)) rfl (fun c0 => ?_) (fun c0 => ?_)
 ·have c0 := of_decide_eq_true c0
  refine .seq <| .rs fun k5 => .as rfl <| .z <| .ret ?_
  exact fin0 (.inr rfl) (.one (svI (show (-1) = (szSS a left) by (rw [wrap_le (by omega) (by omega)] at c0; simp only [szSS]; rw [if_pos c0]))) .nil) (.dd .nil) rfl
 ·have c0 := of_decide_eq_false c0
  refine .skip <| .seq <| .seq <| .rs fun k7 => .as rfl <| .z <| .block ?_
  refine .loop (X := Nat × Int) (fun ζ => .of [(0, .one (.d (.sl false 64 1 (List.map slc64 (a))))), (1, .one (.d (.v (.int .i64 (ζ.2))))), (5, .one (.d (.v (.int .i64 ((ζ.1 : Int))))))] []) (fun ζ => ζ.1 ≤ a.length ∧ 0 ≤ ζ.2 ∧ ζ.2 ≤ 1048576 ∧ ¬ left - a.length < 0 ∧ szF szPl ζ.2 (a.drop ζ.1) = szF szPl (left - a.length) a) (fun ζ => a.length - ζ.1) ?_ ?_
  ·skip
   exact .here (0, (left - a.length)) (.of (.cons rfl (.cons (svI (show (IntKind.wrap .i64 (left - (a.length : Int))) = ((left - a.length)) by first | rfl | omega | exact wrap_le (by omega) (by omega) | (rw [wrap_le (by omega) (by omega)]; omega))) (.cons (svI (show (0) = ((0 : Int)) by first | rfl | omega | exact wrap_le (by omega) (by omega) | (rw [wrap_le (by omega) (by omega)]; omega))) .nil))) .nil) (show 0 ≤ a.length ∧ 0 ≤ (left - a.length) ∧ (left - a.length) ≤ 1048576 ∧ ¬ left - a.length < 0 ∧ szF szPl (left - a.length) (a.drop 0) = szF szPl (left - a.length) a by (rw [wrap_le (by omega) (by omega)] at c0; exact ⟨by omega, by omega, by omega, c0, by simp⟩))
  ·rintro ⟨j, v⟩ hI
   have hI : j ≤ a.length ∧ 0 ≤ v ∧ v ≤ 1048576 ∧ ¬ left - a.length < 0 ∧ szF szPl v (a.drop j) = szF szPl (left - a.length) a := hI
   dsimp only
   refine .seq <| .seq <| .rs fun k8 => .mv rfl <| .mv rfl <| .g (fun _ τ => ⟨_, .len (.no rfl) rfl (z := (a.length : Int)) t66 rfl rfl rfl (.d _ _) (map_len _ _) rfl τ⟩) <| .bi rfl <| .z ?_
   refine .cond (t := decide ((j : Int) < (a.length : Int))) rfl (fun c1 => ?_) (fun c1 => ?_)
   ·have c1 := of_decide_eq_true c1
    refine .skip <| .seq <| .block <| .seq <| .rs fun k9 => .mv rfl <| .mv rfl <| .g (fun _ τ => ⟨_, .indexAddr (.no rfl) rfl (j) t66 rfl t64 rfl rfl rfl (.d _ _) rfl rfl rfl (map_get (by omega)) rfl rfl τ⟩) <| .ld t64 rfl (.d _) rfl ?_
    refine .mv rfl <| .c0 (c_szInt64S (a.getD j default) v (by omega)) rfl (.dd (.dd .nil)) (.own [23, 0] .nil) rfl <| .as rfl <| .z <| .seq <| .rs fun k10 => .mv rfl <| .bi rfl <| .z ?_
    refine .cond (t := decide ((szPl (a.getD j default) v) < 0)) rfl (fun c2 => ?_) (fun c2 => ?_)
    ·have c2 := of_decide_eq_true c2
     refine .seq <| .rs fun k11 => .as rfl <| .z <| .ret ?_
     exact fin0 (.inr rfl) (.one (svI (show (-1) = (szSS a left) by (simp only [szSS]; rw [if_neg hI.2.2.2.1, ← hI.2.2.2.2, szF_fail (by omega) c2]))) .nil) (.dd .nil) rfl
    ·have c2 := of_decide_eq_false c2
     refine .skip <| .rs fun k13 => .mv rfl <| .bi rfl <| .as rfl <| .z ?_
     exact .here ((j + 1), (szPl (a.getD j default) v)) (.of (.cons rfl (.cons (svI (show (szPl (a.getD j default) v) = ((szPl (a.getD j default) v)) by first | rfl | omega | exact wrap_le (by omega) (by omega) | (rw [wrap_le (by omega) (by omega)]; omega))) (.cons (svI (show (IntKind.wrap .i64 ((j : Int) + 1)) = (((j + 1) : Int)) by first | rfl | omega | exact wrap_le (by omega) (by omega) | (rw [wrap_le (by omega) (by omega)]; omega))) .nil))) .nil) ⟨(show (j + 1) ≤ a.length ∧ 0 ≤ (szPl (a.getD j default) v) ∧ (szPl (a.getD j default) v) ≤ 1048576 ∧ ¬ left - a.length < 0 ∧ szF szPl (szPl (a.getD j default) v) (a.drop (j + 1)) = szF szPl (left - a.length) a by (have hx := szPl_len c2; exact ⟨by omega, by omega, by omega, hI.2.2.2.1, by rw [← hI.2.2.2.2]; exact (szF_step (by omega) c2).symm⟩)), (show a.length - (j + 1) < a.length - j by omega)⟩
   ·have c1 := of_decide_eq_false c1
    refine .exit <| .seq <| .rs fun k14 => .mv rfl <| .as rfl <| .z <| .ret ?_
    exact fin0 (.inr rfl) (.one (svI (show (v) = (szSS a left) by (simp only [szSS]; rw [if_neg hI.2.2.2.1, ← hI.2.2.2.2, szF_end (by omega)]))) .nil) (.dd .nil) rfl
theorem c_szStore (a : Store) (left : Int) (hl : 0 ≤ left ∧ left ≤ 1048576) : Trip Tryz.prog 40 [(true, 3), (false, 1)] (Store.c68 a ++ [.v (.int .i64 (left))]) [(false, 1)] [.v (.int .i64 (szStore a left))] [] := by
 refine Trip.of Tryz.func40 (by decide) (c := _) rfl rfl (shB_ok rfl) (Nat.le_of_ble_eq_true rfl) rfl (AftOk.nil _) <| .sla (t := 0) 0 rfl rfl fun hs1l => .sla (t := 0) 1 rfl rfl fun hs2l => .sla (t := 0) 2 rfl rfl fun hs3l => .seq <| .rs fun k4 => .g (fun _ τ => ⟨_, .box (.no rfl) rfl rfl rfl rfl rfl τ⟩) <| .as rfl <| .z ?_
 refine .seq <| .rs fun k5 => .fp t68 t64 rfl <| .ld t64 rfl (.ptr _ _ _ _ _ rfl) rfl <| .mv rfl <| .c0 (c_szInt64S a.ints left (by first | assumption | exact ⟨by omega, szPl_le (by omega)⟩ | exact ⟨by omega, szPl_le ⟨by omega, szPl_le (by omega)⟩⟩)) rfl (.dd (.dd .nil)) (.own [8, 0] .nil) rfl <| .as rfl <| .z <| .seq ?_
 refine .seq <| .rs fun k6 => .mv rfl <| .bi rfl <| .z ?_
 refine .cond (t := decide ((szPl a.ints left) < 0)) rfl (fun c0 => ?_) (fun c0 => ?_)
 ·have c0 := of_decide_eq_true c0
  refine .seq <| .rs fun k7 => .as rfl <| .z <| .ret ?_
  exact fin0 (.inr rfl) (.one (svI (show (-1) = (szStore a left) by (simp only [szStore]; rw [if_pos c0]))) .nil) (.dd .nil) rfl
 ·have c0 := of_decide_eq_false c0
  refine .skip <| .seq <| .rs fun k9 => .fp t68 t65 rfl <| .ld t65 rfl (.ptr _ _ _ _ _ rfl) rfl <| .mv rfl <| .c0 (c_szBoolS a.flags (szPl a.ints left) (by first | assumption | exact ⟨by omega, szPl_le (by omega)⟩ | exact ⟨by omega, szPl_le ⟨by omega, szPl_le (by omega)⟩⟩)) rfl (.dd (.dd .nil)) (.own [14, 0] .nil) rfl <| .as rfl <| .z ?_
  refine .seq <| .seq <| .rs fun k10 => .mv rfl <| .bi rfl <| .z ?_
  refine .cond (t := decide ((szPl a.flags (szPl a.ints left)) < 0)) rfl (fun c1 => ?_) (fun c1 => ?_)
  ·have c1 := of_decide_eq_true c1
   refine .seq <| .rs fun k11 => .as rfl <| .z <| .ret ?_
   exact fin0 (.inr rfl) (.one (svI (show (-1) = (szStore a left) by (simp only [szStore]; rw [if_neg c0, if_pos c1]))) .nil) (.dd .nil) rfl
  ·have c1 := of_decide_eq_false c1
   refine .skip <| .seq <| .rs fun k13 => .fp t68 t66 rfl <| .ld t66 rfl (.ptr _ _ _ _ _ rfl) rfl <| .mv rfl <| .c0 (c_szInt64SS a.arrs (szPl a.flags (szPl a.ints left)) (by first | assumption | exact ⟨by omega, szPl_le (by omega)⟩ | exact ⟨by omega, szPl_le ⟨by omega, szPl_le (by omega)⟩⟩)) rfl (.dd (.dd .nil)) (.own [20, 0] .nil) rfl <| .as rfl <| .z ?_
   refine .seq <| .seq <| .rs fun k14 => .mv rfl <| .bi rfl <| .z ?_
   refine .cond (t := decide ((szSS a.arrs (szPl a.flags (szPl a.ints left))) < 0)) rfl (fun c2 => ?_) (fun c2 => ?_)
   ·have c2 := of_decide_eq_true c2
    refine .seq <| .rs fun k15 => .as rfl <| .z <| .ret ?_
    exact fin0 (.inr rfl) (.one (svI (show (-1) = (szStore a left) by (simp only [szStore]; rw [if_neg c0, if_neg c1, if_pos c2]))) .nil) (.dd .nil) rfl
   ·have c2 := of_decide_eq_false c2
    refine .skip <| .seq <| .rs fun k17 => .mv rfl <| .as rfl <| .z <| .ret ?_
    exact fin0 (.inr rfl) (.one (svI (show (szSS a.arrs (szPl a.flags (szPl a.ints left))) = (szStore a left) by (simp only [szStore]; rw [if_neg c0, if_neg c1, if_neg c2]))) .nil) (.dd .nil) rfl
theorem c_szPart (a : Part) (left : Int) (hl : 0 ≤ left ∧ left ≤ 1048576) : Trip Tryz.prog 81 [(true, 2), (false, 1)] (Part.c118 a ++ [.v (.int .i64 (left))]) [(false, 1)] [.v (.int .i64 (szPart a left))] [] := by
 refine Trip.of Tryz.func81 (by decide) (c := _) rfl rfl (shB_ok rfl) (Nat.le_of_ble_eq_true rfl) rfl (AftOk.nil _) <| .sla (t := 0) 0 rfl rfl fun hs1l => .sla (t := 0) 1 rfl rfl fun hs2l => .seq <| .rs fun k3 => .g (fun _ τ => ⟨_, .box (.no rfl) rfl rfl rfl rfl rfl τ⟩) <| .as rfl <| .z <| .seq ?_
 refine .rs fun k4 => .fp t118 t63 rfl <| .ld t63 rfl (.ptr _ _ _ _ _ rfl) rfl <| .mv rfl <| .c0 (c_szEntryS a.token left (by first | assumption | exact ⟨by omega, szPl_le (by omega)⟩)) rfl (.dd (.dd .nil)) (.own [8, 0] .nil) rfl <| .as rfl <| .z <| .seq <| .seq ?_
 refine .rs fun k5 => .mv rfl <| .bi rfl <| .z ?_
 refine .cond (t := decide ((szPl a.token left) < 0)) rfl (fun c0 => ?_) (fun c0 => ?_)
 ·have c0 := of_decide_eq_true c0
  refine .seq <| .rs fun k6 => .as rfl <| .z <| .ret ?_
  exact fin0 (.inr rfl) (.one (svI (show (-1) = (szPart a left) by (simp only [szPart]; rw [if_pos c0]))) .nil) (.dd .nil) rfl
 ·have c0 := of_decide_eq_false c0
  refine .skip <| .seq <| .rs fun k8 => .fp t118 t43 rfl <| .ld t43 rfl (.ptr _ _ _ _ _ rfl) rfl <| .mv rfl <| .c0 (c_szEnvS a.table (szPl a.token left) (by first | assumption | exact ⟨by omega, szPl_le (by omega)⟩)) rfl (.dd (.dd .nil)) (.own [14, 0] .nil) rfl <| .as rfl <| .z ?_
  refine .seq <| .seq <| .rs fun k9 => .mv rfl <| .bi rfl <| .z ?_
  refine .cond (t := decide ((szEnvS a.table (szPl a.token left)) < 0)) rfl (fun c1 => ?_) (fun c1 => ?_)
  ·have c1 := of_decide_eq_true c1
   refine .seq <| .rs fun k10 => .as rfl <| .z <| .ret ?_
   exact fin0 (.inr rfl) (.one (svI (show (-1) = (szPart a left) by (simp only [szPart]; rw [if_neg c0, if_pos c1]))) .nil) (.dd .nil) rfl
  ·have c1 := of_decide_eq_false c1
   refine .skip <| .seq <| .rs fun k12 => .mv rfl <| .as rfl <| .z <| .ret ?_
   exact fin0 (.inr rfl) (.one (svI (show (szEnvS a.table (szPl a.token left)) = (szPart a left) by (simp only [szPart]; rw [if_neg c0, if_neg c1]))) .nil) (.dd .nil) rfl
theorem c_szPartS (a : List Part) (left : Int) (hl : 0 ≤ left ∧ left ≤ 1048576) : Trip Tryz.prog 31 [(false, 1), (false, 1)] ([.sl false 118 2 (List.map Part.c118 (a))] ++ [.v (.int .i64 (left))]) [(false, 1)] [.v (.int .i64 (szPartS a left))] [] := by
 refine Trip.of Tryz.func31 (by decide) (c := _) rfl rfl (shB_ok rfl) (Nat.le_of_ble_eq_true rfl) rfl (AftOk.nil _) <| .sl (t := 0) rfl fun hs1l => .seq <| .rs fun k2 => .as rfl <| .z <| .seq <| .rs fun k3 => .mv rfl ?_
 refine .mv rfl <| .g (fun _ τ => ⟨_, .len (.no rfl) rfl (z := (a.length : Int)) t54 rfl rfl rfl (.d _ _) (map_len _ _) rfl τ⟩) <| .bi rfl <| .as rfl <| .z <| .seq <| .seq <| .rs fun k4 => .mv rfl ?_
 refine .bi rfl <| .z ?_
 refine .cond (t := decide ((IntKind.wrap .i64 (left - (a.length : Int))) < 0)) rfl (fun c0 => ?_) (fun c0 => ?_)
 ·have c0 := of_decide_eq_true c0
  refine .seq <| .rs fun k5 => .as rfl <| .z <| .ret ?_
  exact fin0 (.inr rfl) (.one (svI (show (-1) = (szPartS a left) by (rw [wrap_le (by omega) (by omega)] at c0; simp only [szPartS]; rw [if_pos c0]))) .nil) (.dd .nil) rfl
 ·have c0 := of_decide_eq_false c0
  refine .skip <| .seq <| .seq <| .rs fun k7 => .as rfl <| .z <| .block ?_
  refine .loop (X := Nat × Int) (fun ζ => .of [(0, .one (.d (.sl false 118 2 (List.map Part.c118 (a))))), (1, .one (.d (.v (.int .i64 (ζ.2))))), (5, .one (.d (.v (.int .i64 ((ζ.1 : Int))))))] []) (fun ζ => ζ.1 ≤ a.length ∧ 0 ≤ ζ.2 ∧ ζ.2 ≤ 1048576 ∧ ¬ left - a.length < 0 ∧ szF szPart ζ.2 (a.drop ζ.1) = szF szPart (left - a.length) a) (fun ζ => a.length - ζ.1) ?_ ?_
  ·skip
   exact .here (0, (left - a.length)) (.of (.cons rfl (.cons (svI (show (IntKind.wrap .i64 (left - (a.length : Int))) = ((left - a.length)) by first | rfl | omega | exact wrap_le (by omega) (by omega) | (rw [wrap_le (by omega) (by omega)]; omega))) (.cons (svI (show (0) = ((0 : Int)) by first | rfl | omega | exact wrap_le (by omega) (by omega) | (rw [wrap_le (by omega) (by omega)]; omega))) .nil))) .nil) (show 0 ≤ a.length ∧ 0 ≤ (left - a.length) ∧ (left - a.length) ≤ 1048576 ∧ ¬ left - a.length < 0 ∧ szF szPart (left - a.length) (a.drop 0) = szF szPart (left - a.length) a by (rw [wrap_le (by omega) (by omega)] at c0; exact ⟨by omega, by omega, by omega, c0, by simp⟩))
  ·rintro ⟨j, v⟩ hI
   have hI : j ≤ a.length ∧ 0 ≤ v ∧ v ≤ 1048576 ∧ ¬ left - a.length < 0 ∧ szF szPart v (a.drop j) = szF szPart (left - a.length) a := hI
   dsimp only
   refine .seq <| .seq <| .rs fun k8 => .mv rfl <| .mv rfl <| .g (fun _ τ => ⟨_, .len (.no rfl) rfl (z := (a.length : Int)) t54 rfl rfl rfl (.d _ _) (map_len _ _) rfl τ⟩) <| .bi rfl <| .z ?_
   refine .cond (t := decide ((j : Int) < (a.length : Int))) rfl (fun c1 => ?_) (fun c1 => ?_)
   ·have c1 := of_decide_eq_true c1
    refine .skip <| .seq <| .block <| .seq <| .rs fun k9 => .mv rfl <| .mv rfl <| .g (fun _ τ => ⟨_, .indexAddr (.no rfl) rfl (j) t54 rfl t118 rfl rfl rfl (.d _ _) rfl rfl rfl (map_get (by omega)) rfl rfl τ⟩) <| .lda t118 rfl (.d _) rfl ?_
    refine .mv rfl <| .c0 (c_szPart (a.getD j default) v (by omega)) rfl (.dd (.dd (.dd .nil))) (.own [23, 0] .nil) rfl <| .as rfl <| .z <| .seq <| .rs fun k10 => .mv rfl <| .bi rfl <| .z ?_
    refine .cond (t := decide ((szPart (a.getD j default) v) < 0)) rfl (fun c2 => ?_) (fun c2 => ?_)
    ·have c2 := of_decide_eq_true c2
     refine .seq <| .rs fun k11 => .as rfl <| .z <| .ret ?_
     exact fin0 (.inr rfl) (.one (svI (show (-1) = (szPartS a left) by (simp only [szPartS]; rw [if_neg hI.2.2.2.1, ← hI.2.2.2.2, szF_fail (by omega) c2]))) .nil) (.dd .nil) rfl
    ·have c2 := of_decide_eq_false c2
     refine .skip <| .rs fun k13 => .mv rfl <| .bi rfl <| .as rfl <| .z ?_
     exact .here ((j + 1), (szPart (a.getD j default) v)) (.of (.cons rfl (.cons (svI (show (szPart (a.getD j default) v) = ((szPart (a.getD j default) v)) by first | rfl | omega | exact wrap_le (by omega) (by omega) | (rw [wrap_le (by omega) (by omega)]; omega))) (.cons (svI (show (IntKind.wrap .i64 ((j : Int) + 1)) = (((j + 1) : Int)) by first | rfl | omega | exact wrap_le (by omega) (by omega) | (rw [wrap_le (by omega) (by omega)]; omega))) .nil))) .nil) ⟨(show (j + 1) ≤ a.length ∧ 0 ≤ (szPart (a.getD j default) v) ∧ (szPart (a.getD j default) v) ≤ 1048576 ∧ ¬ left - a.length < 0 ∧ szF szPart (szPart (a.getD j default) v) (a.drop (j + 1)) = szF szPart (left - a.length) a by (have hx := (szPart_len ⟨hI.2.1, hI.2.2.1⟩ c2).2; exact ⟨by omega, by omega, by omega, hI.2.2.2.1, by rw [← hI.2.2.2.2]; exact (szF_step (by omega) c2).symm⟩)), (show a.length - (j + 1) < a.length - j by omega)⟩
   ·have c1 := of_decide_eq_false c1
    refine .exit <| .seq <| .rs fun k14 => .mv rfl <| .as rfl <| .z <| .ret ?_
    exact fin0 (.inr rfl) (.one (svI (show (v) = (szPartS a left) by (simp only [szPartS]; rw [if_neg hI.2.2.2.1, ← hI.2.2.2.2, szF_end (by omega)]))) .nil) (.dd .nil) rfl
end Go.Proofs

namespace Go.Proofs
open Go Go.Proofs Go.Ev

def Part.c121 (x : Part) : List D := [.sl false 145 2 (List.map Entry.c (x.token)), .sl false 106 3 (List.map Env.c106 (x.table))]
theorem Part.c121_e (x : Part) : (Part.c121 x).map D.erase = Part.c121 x := by simp [Part.c121, D.erase_v, erase_slo _ _ _ _ _ _ Entry.c_e, erase_slo _ _ _ _ _ _ Env.c106_e]
def Part.co121 (x : Part) : List D := [.sl true 145 2 (List.map Entry.c (x.token)), .sl true 106 3 (List.map Env.co106 (x.table))]
theorem Part.co121_e (x : Part) : (Part.co121 x).map D.erase = Part.c121 x := by simp [Part.co121, Part.c121, D.erase_v, erase_slo _ _ _ _ _ _ Entry.c_e, erase_slo _ _ _ _ _ _ Env.co106_e]
theorem Part.co121_o (x : Part) : ∀ d ∈ Part.co121 x, Owned d := by simp [Part.co121, Owned.v, Owned.map _ _ _ _ Entry.c_o, Owned.map _ _ _ _ Env.co106_o]
def i46 : TI := ⟨.sl 106, 1, 24, [.slice none 0 0]⟩
theorem t46 : TyOk Tryz.prog 46 i46 := ⟨Tryz.underlying46, by kernel_rfl⟩
theorem z46 : ZOk Tryz.prog 46 i46 := ⟨t46, rfl⟩
def i57 : TI := ⟨.sl 121, 1, 24, [.slice none 0 0]⟩
theorem t57 : TyOk Tryz.prog 57 i57 := ⟨Tryz.underlying57, by kernel_rfl⟩
theorem z57 : ZOk Tryz.prog 57 i57 := ⟨t57, rfl⟩
def i72 : TI := ⟨.sl 145, 1, 24, [.slice none 0 0]⟩
theorem t72 : TyOk Tryz.prog 72 i72 := ⟨Tryz.underlying72, by kernel_rfl⟩
theorem z72 : ZOk Tryz.prog 72 i72 := ⟨t72, rfl⟩
def i121 : TI := ⟨.st [(0, 72), (1, 46)], 2, 48, [.slice none 0 0, .slice none 0 0]⟩
theorem t121 : TyOk Tryz.prog 121 i121 := ⟨⟨_, Tryz.underlying121, rfl⟩, by kernel_rfl⟩
theorem z121 : ZOk Tryz.prog 121 i121 := ⟨t121, rfl⟩
theorem p121 : Places Tryz.prog [(0, 72), (1, 46)] [(0, 1), (1, 1)] := by unfold Places; kernel_rfl
def i145 : TI := ⟨.st [(0, 2), (1, 2)], 2, 16, [.int .i64 0, .int .i64 0]⟩
theorem t145 : TyOk Tryz.prog 145 i145 := ⟨⟨_, Tryz.underlying145, rfl⟩, by kernel_rfl⟩
theorem z145 : ZOk Tryz.prog 145 i145 := ⟨t145, rfl⟩
theorem p145 : Places Tryz.prog [(0, 2), (1, 2)] [(0, 1), (1, 1)] := by unfold Places; kernel_rfl
def i147 : TI := ⟨.st [(0, 2), (1, 2)], 2, 16, [.int .i64 0, .int .i64 0]⟩
theorem t147 : TyOk Tryz.prog 147 i147 := ⟨⟨_, Tryz.underlying147, rfl⟩, by kernel_rfl⟩
theorem z147 : ZOk Tryz.prog 147 i147 := ⟨t147, rfl⟩
theorem p147 : Places Tryz.prog [(0, 2), (1, 2)] [(0, 1), (1, 1)] := by unfold Places; kernel_rfl
theorem c_toEnvS (a : List Env) (hb : a.length ≤ 1048576) (hx : ∀ x ∈ a, x.ints.length ≤ 1048576 ∧ x.arrs.length ≤ 1048576) : Trip Tryz.prog 22 [(false, 1)] ([.sl false 100 3 (List.map Env.c100 (a))]) [(false, 1)] [.sl true 106 3 (List.map Env.co106 (a))] [] := by
 refine Trip.of Tryz.func22 (by decide) (c := _) rfl rfl (shB_ok rfl) (Nat.le_of_ble_eq_true rfl) rfl (AftOk.nil _) <| .sl (t := 0) rfl fun hs1l => .seq <| .rs fun k2 => .as rfl <| .z <| .seq <| .rs fun k3 => .mv rfl ?_
 refine .g (fun _ τ => ⟨_, .len (.no rfl) rfl (z := (a.length : Int)) t43 rfl rfl rfl (.d _ _) (map_len _ _) rfl τ⟩) <| .g (fun _ τ => ⟨_, .makeSlice (.no rfl) rfl (n0 := a.length) (els := List.replicate a.length [.v (.bool (false)), .v (.slice none 0 0), .v (.slice none 0 0)]) t46 rfl z106 rfl rfl rfl rfl rfl (by (simp [i106]; omega)) (by omega) rfl rfl τ⟩) <| .as rfl <| .z <| .seq <| .seq <| .rs fun k4 => .as rfl <| .z ?_
 refine .block ?_
 refine .loop (X := Nat × Nat × Nat) (fun ζ => .of [(0, .one (.d (.sl false 100 3 (List.map Env.c100 (a))))), (3, .one (.ref [7] (ζ.2.1))), (4, .one (.d (.v (.int .i64 ((ζ.1 : Int))))))] [([7], (ζ.2.1, ζ.2.2, .row 106 3 (List.map Env.co106 (fillTo a (Env.mk false [] []) ζ.1))))]) (fun ζ => ζ.1 ≤ a.length) (fun ζ => a.length - ζ.1) ?_ ?_
 ·skip
  refine .rowAs [7] (x := [.v (.bool (false)), .v (.slice none 0 0), .v (.slice none 0 0)]) (x' := [.v (.bool (false)), .sl true 182 2 ([]), .sl true 182 2 ([])]) (els' := List.map Env.co106 (List.replicate a.length (Env.mk false [] []))) rfl rfl (.eq _ (.emp _ _ _ (.emp _ _ _ .nil))) (rep_map _ _ _ rfl) fun q7 => ?_
  exact .here (0, (k3 + 1 + 1), q7) (.of (.cons rfl (.cons (by show SV.one (.ref [7] (k3 + 1 + 1)) = SV.one (.ref [7] ((k3 + 1 + 1))); first | rfl | simp_all) (.cons (svI (show (0) = ((0 : Int)) by first | rfl | omega | exact wrap_le (by omega) (by omega) | (rw [wrap_le (by omega) (by omega)]; omega))) .nil))) (.cons (rowE (show List.map Env.co106 (List.replicate a.length (Env.mk false [] [])) = List.map Env.co106 (fillTo a (Env.mk false [] []) 0) by first | rfl | (rw [fillTo_zero]) | (rw [fillTo_step _ _ _ (by omega) rfl]))) .nil)) (show 0 ≤ a.length by omega)
 ·rintro ⟨j, q5, q6⟩ hI
  have hI : j ≤ a.length := hI
  dsimp only
  refine .seq <| .seq <| .rs fun k8 => .mv rfl <| .mv rfl <| .g (fun _ τ => ⟨_, .len (.no rfl) rfl (z := (a.length : Int)) t43 rfl rfl rfl (.d _ _) (map_len _ _) rfl τ⟩) <| .bi rfl <| .z ?_
  refine .cond (t := decide ((j : Int) < (a.length : Int))) rfl (fun c0 => ?_) (fun c0 => ?_)
  ·have c0 := of_decide_eq_true c0
   refine .skip <| .seq <| .block <| .rs fun k9 => .mv rfl <| .mv rfl <| .mv rfl <| .mv rfl <| .g (fun _ τ => ⟨_, .indexAddr (.no rfl) rfl (j) t43 rfl t100 rfl rfl rfl (.d _ _) rfl rfl rfl (map_get (by first | omega | (rw [fillTo_len]; omega))) rfl rfl τ⟩) ?_
   refine .lda t100 rfl (.d _) rfl <| .c0 (c_toEnv (a.getD j default) (by exact hx _ (getD_mem (by omega)))) rfl (.dd (.dd (.dd .nil))) (.own [20, 0] (.own [20, 1] (.own [20, 2] .nil))) rfl <| .g (fun _ τ => ⟨_, .indexAddr (.no rfl) rfl (j) t46 rfl t106 rfl rfl rfl (.ref _ _ _ _ _ rfl) rfl rfl rfl (map_get (by first | omega | (rw [fillTo_len]; omega))) rfl rfl τ⟩) <| .g (fun _ τ => ⟨_, .storeE (.no rfl) rfl (els' := List.map Env.co106 ((fillTo a (Env.mk false [] []) j).set j (a.getD j default))) t106 rfl rfl rfl rfl (map_get (by first | omega | (rw [fillTo_len]; omega))) rfl rfl (.cons _ _ _ _ _ _ (.d _) (.cons _ _ _ _ _ _ (.ref _ _ _ _ _ _ rfl) (.cons _ _ _ _ _ _ (.ref _ _ _ _ _ _ rfl) .nil))) rfl (Nat.le_of_ble_eq_true rfl) (set_map _ _ _ (a.getD j default) _ rfl) rfl rfl τ⟩) <| .z <| .rs fun k10 => .mv rfl <| .bi rfl <| .as rfl ?_
   refine .z ?_
   exact .here ((j + 1), q5, (k9 + 1 + 1 + 1 + 1 + 1 + 1 + 1 + 1)) (.of (.cons rfl (.cons rfl (.cons (svI (show (IntKind.wrap .i64 ((j : Int) + 1)) = (((j + 1) : Int)) by first | rfl | omega | exact wrap_le (by omega) (by omega) | (rw [wrap_le (by omega) (by omega)]; omega))) .nil))) (.cons (rowE (show List.map Env.co106 ((fillTo a (Env.mk false [] []) j).set j (a.getD j default)) = List.map Env.co106 (fillTo a (Env.mk false [] []) (j + 1)) by first | rfl | (rw [fillTo_zero]) | (rw [fillTo_step _ _ _ (by omega) rfl]))) .nil)) ⟨(show (j + 1) ≤ a.length by omega), (show a.length - (j + 1) < a.length - j by omega)⟩
  ·have c0 := of_decide_eq_false c0
   refine .exit <| .seq <| .rs fun k11 => .mv rfl <| .as rfl <| .z <| .ret ?_
   have e12 : (fillTo a (Env.mk false [] []) j) = (a) := by (exact fillTo_all _ _ (by omega))
   exact fin1 (.inr rfl) [] [([7], (q5, q6, .row 106 3 (List.map Env.co106 (a))))] (.one rfl .nil) (.cons (.ref (.head _)) .nil) rfl rfl (.cons (rowE (congrArg (List.map Env.co106) e12)) .nil)
theorem c_toInt64SS (a : List (List Int)) (hb : a.length ≤ 1048576) (hx : ∀ x ∈ a, x.length ≤ 1048576) : Trip Tryz.prog 112 [(false, 1)] ([.sl false 64 1 (List.map slc64 (a))]) [(false, 1)] [.sl true 64 1 (List.map slco64 (a))] [] := by
 refine Trip.of Tryz.func112 (by decide) (c := _) rfl rfl (shB_ok rfl) (Nat.le_of_ble_eq_true rfl) rfl (AftOk.nil _) <| .sl (t := 0) rfl fun hs1l => .seq <| .rs fun k2 => .as rfl <| .z <| .seq <| .rs fun k3 => .mv rfl ?_
 refine .g (fun _ τ => ⟨_, .len (.no rfl) rfl (z := (a.length : Int)) t66 rfl rfl rfl (.d _ _) (map_len _ _) rfl τ⟩) <| .g (fun _ τ => ⟨_, .makeSlice (.no rfl) rfl (n0 := a.length) (els := List.replicate a.length [.v (.slice none 0 0)]) t66 rfl z64 rfl rfl rfl rfl rfl (by (simp [i64]; omega)) (by omega) rfl rfl τ⟩) <| .as rfl <| .z <| .seq <| .seq <| .rs fun k4 => .as rfl <| .z ?_
 refine .block ?_
 refine .loop (X := Nat × Nat × Nat) (fun ζ => .of [(0, .one (.d (.sl false 64 1 (List.map slc64 (a))))), (3, .one (.ref [7] (ζ.2.1))), (4, .one (.d (.v (.int .i64 ((ζ.1 : Int))))))] [([7], (ζ.2.1, ζ.2.2, .row 64 1 (List.map slco64 (fillTo a ([]) ζ.1))))]) (fun ζ => ζ.1 ≤ a.length) (fun ζ => a.length - ζ.1) ?_ ?_
 ·skip
  refine .rowAs [7] (x := [.v (.slice none 0 0)]) (x' := [.sl true 2 1 ([])]) (els' := List.map slco64 (List.replicate a.length [])) rfl rfl (.emp _ _ _ .nil) (rep_map _ _ _ rfl) fun q7 => ?_
  exact .here (0, (k3 + 1 + 1), q7) (.of (.cons rfl (.cons (by show SV.one (.ref [7] (k3 + 1 + 1)) = SV.one (.ref [7] ((k3 + 1 + 1))); first | rfl | simp_all) (.cons (svI (show (0) = ((0 : Int)) by first | rfl | omega | exact wrap_le (by omega) (by omega) | (rw [wrap_le (by omega) (by omega)]; omega))) .nil))) (.cons (rowE (show List.map slco64 (List.replicate a.length []) = List.map slco64 (fillTo a ([]) 0) by first | rfl | (rw [fillTo_zero]) | (rw [fillTo_step _ _ _ (by omega) rfl]))) .nil)) (show 0 ≤ a.length by omega)
 ·rintro ⟨j, q5, q6⟩ hI
  have hI : j ≤ a.length := hI
  dsimp only
  refine .seq <| .seq <| .rs fun k8 => .mv rfl <| .mv rfl <| .g (fun _ τ => ⟨_, .len (.no rfl) rfl (z := (a.length : Int)) t66 rfl rfl rfl (.d _ _) (map_len _ _) rfl τ⟩) <| .bi rfl <| .z ?_
  refine .cond (t := decide ((j : Int) < (a.length : Int))) rfl (fun c0 => ?_) (fun c0 => ?_)
  ·have c0 := of_decide_eq_true c0
   refine .skip <| .seq <| .block <| .rs fun k9 => .mv rfl <| .mv rfl <| .mv rfl <| .mv rfl <| .g (fun _ τ => ⟨_, .indexAddr (.no rfl) rfl (j) t66 rfl t64 rfl rfl rfl (.d _ _) rfl rfl rfl (map_get (by first | omega | (rw [fillTo_len]; omega))) rfl rfl τ⟩) ?_
   refine .ld t64 rfl (.d _) rfl <| .c0 (c_toInt64S (a.getD j default) (by exact hx _ (getD_mem (by omega)))) rfl (.dd .nil) (.own [20, 0] .nil) rfl <| .g (fun _ τ => ⟨_, .indexAddr (.no rfl) rfl (j) t66 rfl t64 rfl rfl rfl (.ref _ _ _ _ _ rfl) rfl rfl rfl (map_get (by first | omega | (rw [fillTo_len]; omega))) rfl rfl τ⟩) <| .g (fun _ τ => ⟨_, .storeE (.no rfl) rfl (els' := List.map slco64 ((fillTo a ([]) j).set j (a.getD j default))) t64 rfl rfl rfl rfl (map_get (by first | omega | (rw [fillTo_len]; omega))) rfl rfl (.cons _ _ _ _ _ _ (.ref _ _ _ _ _ _ rfl) .nil) rfl (Nat.le_of_ble_eq_true rfl) (set_map _ _ _ (a.getD j default) _ rfl) rfl rfl τ⟩) <| .z <| .rs fun k10 => .mv rfl <| .bi rfl <| .as rfl ?_
   refine .z ?_
   exact .here ((j + 1), q5, (k9 + 1 + 1 + 1 + 1 + 1 + 1 + 1 + 1)) (.of (.cons rfl (.cons rfl (.cons (svI (show (IntKind.wrap .i64 ((j : Int) + 1)) = (((j + 1) : Int)) by first | rfl | omega | exact wrap_le (by omega) (by omega) | (rw [wrap_le (by omega) (by omega)]; omega))) .nil))) (.cons (rowE (show List.map slco64 ((fillTo a ([]) j).set j (a.getD j default)) = List.map slco64 (fillTo a ([]) (j + 1)) by first | rfl | (rw [fillTo_zero]) | (rw [fillTo_step _ _ _ (by omega) rfl]))) .nil)) ⟨(show (j + 1) ≤ a.length by omega), (show a.length - (j + 1) < a.length - j by omega)⟩
  ·have c0 := of_decide_eq_false c0
   refine .exit <| .seq <| .rs fun k11 => .mv rfl <| .as rfl <| .z <| .ret ?_
   have e12 : (fillTo a ([]) j) = (a) := by (exact fillTo_all _ _ (by omega))
   exact fin1 (.inr rfl) [] [([7], (q5, q6, .row 64 1 (List.map slco64 (a))))] (.one rfl .nil) (.cons (.ref (.head _)) .nil) rfl rfl (.cons (rowE (congrArg (List.map slco64) e12)) .nil)
theorem c_toBoolS (a : List Bool) (hb : a.length ≤ 1048576) : Trip Tryz.prog 111 [(false, 1)] ([.sl false 4 1 (List.map boolc (a))]) [(false, 1)] [.sl true 4 1 (List.map boolc (a))] [] := by
 refine Trip.of Tryz.func111 (by decide) (c := _) rfl rfl (shB_ok rfl) (Nat.le_of_ble_eq_true rfl) rfl (AftOk.nil _) <| .sl (t := 0) rfl fun hs1l => .seq <| .rs fun k2 => .as rfl <| .z <| .seq <| .rs fun k3 => .mv rfl ?_
 refine .g (fun _ τ => ⟨_, .len (.no rfl) rfl (z := (a.length : Int)) t65 rfl rfl rfl (.d _ _) (map_len _ _) rfl τ⟩) <| .g (fun _ τ => ⟨_, .makeSlice (.no rfl) rfl (n0 := a.length) (els := List.map boolc (List.replicate a.length false)) t65 rfl z4 rfl rfl rfl rfl rfl (by (simp [i4]; omega)) (by omega) (rep_map _ _ _ rfl) rfl τ⟩) <| .as rfl <| .z <| .seq <| .seq <| .rs fun k4 => .as rfl <| .z ?_
 refine .block ?_
 refine .loop (X := Nat × Nat × Nat) (fun ζ => .of [(0, .one (.d (.sl false 4 1 (List.map boolc (a))))), (3, .one (.ref [7] (ζ.2.1))), (4, .one (.d (.v (.int .i64 ((ζ.1 : Int))))))] [([7], (ζ.2.1, ζ.2.2, .row 4 1 (List.map boolc (fillTo a (false) ζ.1))))]) (fun ζ => ζ.1 ≤ a.length) (fun ζ => a.length - ζ.1) ?_ ?_
 ·skip
  exact .here (0, (k3 + 1 + 1), (k3 + 1 + 1)) (.of (.cons rfl (.cons (by show SV.one (.ref [7] (k3 + 1 + 1)) = SV.one (.ref [7] ((k3 + 1 + 1))); first | rfl | simp_all) (.cons (svI (show (0) = ((0 : Int)) by first | rfl | omega | exact wrap_le (by omega) (by omega) | (rw [wrap_le (by omega) (by omega)]; omega))) .nil))) (.cons (rowE (show List.map boolc (List.replicate a.length false) = List.map boolc (fillTo a (false) 0) by first | rfl | (rw [fillTo_zero]) | (rw [fillTo_step _ _ _ (by omega) rfl]))) .nil)) (show 0 ≤ a.length by omega)
 ·rintro ⟨j, q5, q6⟩ hI
  have hI : j ≤ a.length := hI
  dsimp only
  refine .seq <| .seq <| .rs fun k7 => .mv rfl <| .mv rfl <| .g (fun _ τ => ⟨_, .len (.no rfl) rfl (z := (a.length : Int)) t65 rfl rfl rfl (.d _ _) (map_len _ _) rfl τ⟩) <| .bi rfl <| .z ?_
  refine .cond (t := decide ((j : Int) < (a.length : Int))) rfl (fun c0 => ?_) (fun c0 => ?_)
  ·have c0 := of_decide_eq_true c0
   refine .skip <| .seq <| .block <| .rs fun k8 => .mv rfl <| .mv rfl <| .mv rfl <| .mv rfl <| .g (fun _ τ => ⟨_, .indexAddr (.no rfl) rfl (j) t65 rfl t4 rfl rfl rfl (.d _ _) rfl rfl rfl (map_get (by first | omega | (rw [fillTo_len]; omega))) rfl rfl τ⟩) ?_
   refine .ld t4 rfl (.d _) rfl <| .g (fun _ τ => ⟨_, .indexAddr (.no rfl) rfl (j) t65 rfl t4 rfl rfl rfl (.ref _ _ _ _ _ rfl) rfl rfl rfl (map_get (by first | omega | (rw [fillTo_len]; omega))) rfl rfl τ⟩) <| .g (fun _ τ => ⟨_, .storeE (.no rfl) rfl (els' := List.map boolc ((fillTo a (false) j).set j (a.getD j default))) t4 rfl rfl rfl rfl (map_get (by first | omega | (rw [fillTo_len]; omega))) rfl rfl (.cons _ _ _ _ _ _ (.d _) .nil) rfl (Nat.le_of_ble_eq_true rfl) (set_map _ _ _ (a.getD j default) _ rfl) rfl rfl τ⟩) <| .z <| .rs fun k9 => .mv rfl <| .bi rfl <| .as rfl <| .z ?_
   exact .here ((j + 1), q5, (k8 + 1 + 1 + 1 + 1 + 1 + 1 + 1)) (.of (.cons rfl (.cons rfl (.cons (svI (show (IntKind.wrap .i64 ((j : Int) + 1)) = (((j + 1) : Int)) by first | rfl | omega | exact wrap_le (by omega) (by omega) | (rw [wrap_le (by omega) (by omega)]; omega))) .nil))) (.cons (rowE (show List.map boolc ((fillTo a (false) j).set j (a.getD j default)) = List.map boolc (fillTo a (false) (j + 1)) by first | rfl | (rw [fillTo_zero]) | (rw [fillTo_step _ _ _ (by omega) rfl]))) .nil)) ⟨(show (j + 1) ≤ a.length by omega), (show a.length - (j + 1) < a.length - j by omega)⟩
  ·have c0 := of_decide_eq_false c0
   refine .exit <| .seq <| .rs fun k10 => .mv rfl <| .as rfl <| .z <| .ret ?_
   have e11 : (fillTo a (false) j) = (a) := by (exact fillTo_all _ _ (by omega))
   exact fin1 (.inr rfl) [] [([7], (q5, q6, .row 4 1 (List.map boolc (a))))] (.one rfl .nil) (.cons (.ref (.head _)) .nil) rfl rfl (.cons (rowE (congrArg (List.map boolc) e11)) .nil)
theorem c_toEntry (a : Entry) : Trip Tryz.prog 110 [(true, 2)] (Entry.c a) [(true, 2)] [.v (.int .i64 (a.line)), .v (.int .i64 (a.pick))] [] := by
 refine Trip.of Tryz.func110 (by decide) (c := _) rfl rfl (shB_ok rfl) (Nat.le_of_ble_eq_true rfl) rfl (AftOk.nil _) <| .seq <| .rs fun k1 => .g (fun _ τ => ⟨_, .box (.no rfl) rfl rfl rfl rfl rfl τ⟩) <| .g (fun _ τ => ⟨_, .alloc (.no rfl) rfl z145 rfl rfl rfl τ⟩) <| .z <| .seq <| .rs fun k2 => .g (fun _ τ => ⟨_, .alloc (.no rfl) rfl z145 rfl rfl rfl τ⟩) ?_
 refine .z <| .seq <| .rs fun k3 => .fp t147 t2 rfl <| .ld t2 rfl (.ptr _ _ _ _ _ rfl) rfl <| .fp t145 t2 rfl <| .g (fun _ τ => ⟨_, .store (.no rfl) rfl t2 rfl rfl rfl rfl rfl rfl rfl rfl rfl τ⟩) <| .z <| .seq ?_
 refine .rs fun k4 => .fp t147 t2 rfl <| .ld t2 rfl (.ptr _ _ _ _ _ rfl) rfl <| .fp t145 t2 rfl <| .g (fun _ τ => ⟨_, .store (.no rfl) rfl t2 rfl rfl rfl rfl rfl rfl rfl rfl rfl τ⟩) <| .z <| .seq <| .rs fun k5 => .lda t145 rfl (.ptr _ _ _ _ _ rfl) rfl ?_
 refine .g (fun _ τ => ⟨_, .store (.no rfl) rfl t145 rfl rfl rfl rfl rfl rfl rfl rfl rfl τ⟩) <| .z <| .ret ?_
 exact fin0 (.inr rfl) (.cell (cells := [.d (.v (.int .i64 (a.line))), .d (.v (.int .i64 (a.pick)))]) rfl rfl t145 rfl rfl .nil) (.dd (.dd .nil)) rfl
theorem c_toEntryS (a : List Entry) (hb : a.length ≤ 1048576) : Trip Tryz.prog 42 [(false, 1)] ([.sl false 147 2 (List.map Entry.c (a))]) [(false, 1)] [.sl true 145 2 (List.map Entry.c (a))] [] := by
 refine Trip.of Tryz.func42 (by decide) (c := _) rfl rfl (shB_ok rfl) (Nat.le_of_ble_eq_true rfl) rfl (AftOk.nil _) <| .sl (t := 0) rfl fun hs1l => .seq <| .rs fun k2 => .as rfl <| .z <| .seq <| .rs fun k3 => .mv rfl ?_
 refine .g (fun _ τ => ⟨_, .len (.no rfl) rfl (z := (a.length : Int)) t63 rfl rfl rfl (.d _ _) (map_len _ _) rfl τ⟩) <| .g (fun _ τ => ⟨_, .makeSlice (.no rfl) rfl (n0 := a.length) (els := List.map Entry.c (List.replicate a.length (Entry.mk 0 0))) t72 rfl z145 rfl rfl rfl rfl rfl (by (simp [i145]; omega)) (by omega) (rep_map _ _ _ rfl) rfl τ⟩) <| .as rfl <| .z <| .seq <| .seq <| .rs fun k4 => .as rfl <| .z ?_
 refine .block ?_
 refine .loop (X := Nat × Nat × Nat) (fun ζ => .of [(0, .one (.d (.sl false 147 2 (List.map Entry.c (a))))), (3, .one (.ref [7] (ζ.2.1))), (4, .one (.d (.v (.int .i64 ((ζ.1 : Int))))))] [([7], (ζ.2.1, ζ.2.2, .row 145 2 (List.map Entry.c (fillTo a (Entry.mk 0 0) ζ.1))))]) (fun ζ => ζ.1 ≤ a.length) (fun ζ => a.length - ζ.1) ?_ ?_
 ·skip
  exact .here (0, (k3 + 1 + 1), (k3 + 1 + 1)) (.of (.cons rfl (.cons (by show SV.one (.ref [7] (k3 + 1 + 1)) = SV.one (.ref [7] ((k3 + 1 + 1))); first | rfl | simp_all) (.cons (svI (show (0) = ((0 : Int)) by first | rfl | omega | exact wrap_le (by omega) (by omega) | (rw [wrap_le (by omega) (by omega)]; omega))) .nil))) (.cons (rowE (show List.map Entry.c (List.replicate a.length (Entry.mk 0 0)) = List.map Entry.c (fillTo a (Entry.mk 0 0) 0) by first | rfl | (rw [fillTo_zero]) | (rw [fillTo_step _ _ _ (by omega) rfl]))) .nil)) (show 0 ≤ a.length by omega)
 ·rintro ⟨j, q5, q6⟩ hI
  have hI : j ≤ a.length := hI
  dsimp only
  refine .seq <| .seq <| .rs fun k7 => .mv rfl <| .mv rfl <| .g (fun _ τ => ⟨_, .len (.no rfl) rfl (z := (a.length : Int)) t63 rfl rfl rfl (.d _ _) (map_len _ _) rfl τ⟩) <| .bi rfl <| .z ?_
  refine .cond (t := decide ((j : Int) < (a.length : Int))) rfl (fun c0 => ?_) (fun c0 => ?_)
  ·have c0 := of_decide_eq_true c0
   refine .skip <| .seq <| .block <| .rs fun k8 => .mv rfl <| .mv rfl <| .mv rfl <| .mv rfl <| .g (fun _ τ => ⟨_, .indexAddr (.no rfl) rfl (j) t63 rfl t147 rfl rfl rfl (.d _ _) rfl rfl rfl (map_get (by first | omega | (rw [fillTo_len]; omega))) rfl rfl τ⟩) ?_
   refine .lda t147 rfl (.d _) rfl <| .c0 (c_toEntry (a.getD j default)) rfl (.dd (.dd .nil)) (.own [20, 0] (.own [20, 1] .nil)) rfl <| .g (fun _ τ => ⟨_, .indexAddr (.no rfl) rfl (j) t72 rfl t145 rfl rfl rfl (.ref _ _ _ _ _ rfl) rfl rfl rfl (map_get (by first | omega | (rw [fillTo_len]; omega))) rfl rfl τ⟩) <| .g (fun _ τ => ⟨_, .storeE (.no rfl) rfl (els' := List.map Entry.c ((fillTo a (Entry.mk 0 0) j).set j (a.getD j default))) t145 rfl rfl rfl rfl (map_get (by first | omega | (rw [fillTo_len]; omega))) rfl rfl (.cons _ _ _ _ _ _ (.d _) (.cons _ _ _ _ _ _ (.d _) .nil)) rfl (Nat.le_of_ble_eq_true rfl) (set_map _ _ _ (a.getD j default) _ rfl) rfl rfl τ⟩) <| .z <| .rs fun k9 => .mv rfl <| .bi rfl <| .as rfl ?_
   refine .z ?_
   exact .here ((j + 1), q5, (k8 + 1 + 1 + 1 + 1 + 1 + 1 + 1 + 1)) (.of (.cons rfl (.cons rfl (.cons (svI (show (IntKind.wrap .i64 ((j : Int) + 1)) = (((j + 1) : Int)) by first | rfl | omega | exact wrap_le (by omega) (by omega) | (rw [wrap_le (by omega) (by omega)]; omega))) .nil))) (.cons (rowE (show List.map Entry.c ((fillTo a (Entry.mk 0 0) j).set j (a.getD j default)) = List.map Entry.c (fillTo a (Entry.mk 0 0) (j + 1)) by first | rfl | (rw [fillTo_zero]) | (rw [fillTo_step _ _ _ (by omega) rfl]))) .nil)) ⟨(show (j + 1) ≤ a.length by omega), (show a.length - (j + 1) < a.length - j by omega)⟩
  ·have c0 := of_decide_eq_false c0
   refine .exit <| .seq <| .rs fun k10 => .mv rfl <| .as rfl <| .z <| .ret ?_
   have e11 : (fillTo a (Entry.mk 0 0) j) = (a) := by (exact fillTo_all _ _ (by omega))
   exact fin1 (.inr rfl) [] [([7], (q5, q6, .row 145 2 (List.map Entry.c (a))))] (.one rfl .nil) (.cons (.ref (.head _)) .nil) rfl rfl (.cons (rowE (congrArg (List.map Entry.c) e11)) .nil)
theorem c_toStore (a : Store) (hb : Store.small a) : Trip Tryz.prog 43 [(true, 3)] (Store.c68 a) [(true, 3)] [.sl true 2 1 (List.map i64c (a.ints)), .sl true 4 1 (List.map boolc (a.flags)), .sl true 64 1 (List.map slco64 (a.arrs))] [] := by
 refine Trip.of Tryz.func43 (by decide) (c := _) rfl rfl (shB_ok rfl) (Nat.le_of_ble_eq_true rfl) rfl (AftOk.nil _) <| .sla (t := 0) 0 rfl rfl fun hs1l => .sla (t := 0) 1 rfl rfl fun hs2l => .sla (t := 0) 2 rfl rfl fun hs3l => .seq <| .rs fun k4 => .g (fun _ τ => ⟨_, .box (.no rfl) rfl rfl rfl rfl rfl τ⟩) <| .g (fun _ τ => ⟨_, .alloc (.no rfl) rfl z74 rfl rfl rfl τ⟩) <| .z ?_
 refine .seq <| .rs fun k5 => .g (fun _ τ => ⟨_, .alloc (.no rfl) rfl z74 rfl rfl rfl τ⟩) <| .z <| .seq <| .rs fun k6 => .fp t68 t64 rfl <| .ld t64 rfl (.ptr _ _ _ _ _ rfl) rfl <| .c0 (c_toInt64S a.ints (by first | exact hb.1 | exact hb.2.1 | exact hb.2.2.1 | exact hb.2.2.2)) rfl (.dd .nil) (.own [6, 0] .nil) rfl ?_
 refine .fp t74 t64 rfl <| .g (fun _ τ => ⟨_, .store (.no rfl) rfl t64 rfl rfl rfl rfl rfl rfl rfl rfl rfl τ⟩) <| .z <| .seq <| .rs fun k7 => .fp t68 t65 rfl <| .ld t65 rfl (.ptr _ _ _ _ _ rfl) rfl <| .c0 (c_toBoolS a.flags (by first | exact hb.1 | exact hb.2.1 | exact hb.2.2.1 | exact hb.2.2.2)) rfl (.dd .nil) (.own [10, 0] .nil) rfl <| .fp t74 t65 rfl ?_
 refine .g (fun _ τ => ⟨_, .store (.no rfl) rfl t65 rfl rfl rfl rfl rfl rfl rfl rfl rfl τ⟩) <| .z <| .seq <| .rs fun k8 => .fp t68 t66 rfl <| .ld t66 rfl (.ptr _ _ _ _ _ rfl) rfl <| .c0 (c_toInt64SS a.arrs (by first | exact hb.1 | exact hb.2.1 | exact hb.2.2.1 | exact hb.2.2.2) (by first | exact hb.1 | exact hb.2.1 | exact hb.2.2.1 | exact hb.2.2.2)) rfl (.dd .nil) (.own [14, 0] .nil) rfl <| .fp t74 t66 rfl <| .g (fun _ τ => ⟨_, .store (.no rfl) rfl t66 rfl rfl rfl rfl rfl rfl rfl rfl rfl τ⟩) ?_
 refine .z <| .seq <| .rs fun k9 => .lda t74 rfl (.ptr _ _ _ _ _ rfl) rfl <| .g (fun _ τ => ⟨_, .store (.no rfl) rfl t74 rfl rfl rfl rfl rfl rfl rfl rfl rfl τ⟩) <| .z <| .ret ?_
 exact fin1 (.inr rfl) [] [([6, 0], (k6 + 1 + 1, k6 + 1 + 1, .row 2 1 (List.map i64c (a.ints)))), ([10, 0], (k7 + 1 + 1, k7 + 1 + 1, .row 4 1 (List.map boolc (a.flags)))), ([14, 0], (k8 + 1 + 1, k8 + 1 + 1, .row 64 1 (List.map slco64 (a.arrs))))] (.cell (cells := [.ref [6, 0] (k6 + 1 + 1), .ref [10, 0] (k7 + 1 + 1), .ref [14, 0] (k8 + 1 + 1)]) rfl rfl t74 rfl rfl .nil) (.cons (.ref (.head _)) (.cons (.ref (.tail _ (.head _))) (.cons (.ref (.tail _ (.tail _ (.head _)))) .nil))) rfl rfl (.r rfl)
theorem c_toPart (a : Part) (hb : Part.small a) : Trip Tryz.prog 84 [(true, 2)] (Part.c118 a) [(true, 2)] [.sl true 145 2 (List.map Entry.c (a.token)), .sl true 106 3 (List.map Env.co106 (a.table))] [] := by
 refine Trip.of Tryz.func84 (by decide) (c := _) rfl rfl (shB_ok rfl) (Nat.le_of_ble_eq_true rfl) rfl (AftOk.nil _) <| .sla (t := 0) 0 rfl rfl fun hs1l => .sla (t := 0) 1 rfl rfl fun hs2l => .seq <| .rs fun k3 => .g (fun _ τ => ⟨_, .box (.no rfl) rfl rfl rfl rfl rfl τ⟩) <| .g (fun _ τ => ⟨_, .alloc (.no rfl) rfl z121 rfl rfl rfl τ⟩) <| .z <| .seq ?_
 refine .rs fun k4 => .g (fun _ τ => ⟨_, .alloc (.no rfl) rfl z121 rfl rfl rfl τ⟩) <| .z <| .seq <| .rs fun k5 => .fp t118 t63 rfl <| .ld t63 rfl (.ptr _ _ _ _ _ rfl) rfl <| .c0 (c_toEntryS a.token (by first | exact hb.1 | exact hb.2.1 | exact hb.2.2)) rfl (.dd .nil) (.own [6, 0] .nil) rfl <| .fp t121 t72 rfl ?_
 refine .g (fun _ τ => ⟨_, .store (.no rfl) rfl t72 rfl rfl rfl rfl rfl rfl rfl rfl rfl τ⟩) <| .z <| .seq <| .rs fun k6 => .fp t118 t43 rfl <| .ld t43 rfl (.ptr _ _ _ _ _ rfl) rfl <| .c0 (c_toEnvS a.table (by first | exact hb.1 | exact hb.2.1 | exact hb.2.2) (by first | exact hb.1 | exact hb.2.1 | exact hb.2.2)) rfl (.dd .nil) (.own [10, 0] .nil) rfl <| .fp t121 t46 rfl <| .g (fun _ τ => ⟨_, .store (.no rfl) rfl t46 rfl rfl rfl rfl rfl rfl rfl rfl rfl τ⟩) ?_
 refine .z <| .seq <| .rs fun k7 => .lda t121 rfl (.ptr _ _ _ _ _ rfl) rfl <| .g (fun _ τ => ⟨_, .store (.no rfl) rfl t121 rfl rfl rfl rfl rfl rfl rfl rfl rfl τ⟩) <| .z <| .ret ?_
 exact fin1 (.inr rfl) [] [([6, 0], (k5 + 1 + 1, k5 + 1 + 1, .row 145 2 (List.map Entry.c (a.token)))), ([10, 0], (k6 + 1 + 1, k6 + 1 + 1, .row 106 3 (List.map Env.co106 (a.table))))] (.cell (cells := [.ref [6, 0] (k5 + 1 + 1), .ref [10, 0] (k6 + 1 + 1)]) rfl rfl t121 rfl rfl .nil) (.cons (.ref (.head _)) (.cons (.ref (.tail _ (.head _))) .nil)) rfl rfl (.r rfl)
theorem c_toPartS (a : List Part) (hb : a.length ≤ 1048576) (hx : ∀ x ∈ a, Part.small x) : Trip Tryz.prog 33 [(false, 1)] ([.sl false 118 2 (List.map Part.c118 (a))]) [(false, 1)] [.sl true 121 2 (List.map Part.co121 (a))] [] := by
 refine Trip.of Tryz.func33 (by decide) (c := _) rfl rfl (shB_ok rfl) (Nat.le_of_ble_eq_true rfl) rfl (AftOk.nil _) <| .sl (t := 0) rfl fun hs1l => .seq <| .rs fun k2 => .as rfl <| .z <| .seq <| .rs fun k3 => .mv rfl ?_
 refine .g (fun _ τ => ⟨_, .len (.no rfl) rfl (z := (a.length : Int)) t54 rfl rfl rfl (.d _ _) (map_len _ _) rfl τ⟩) <| .g (fun _ τ => ⟨_, .makeSlice (.no rfl) rfl (n0 := a.length) (els := List.replicate a.length [.v (.slice none 0 0), .v (.slice none 0 0)]) t57 rfl z121 rfl rfl rfl rfl rfl (by (simp [i121]; omega)) (by omega) rfl rfl τ⟩) <| .as rfl <| .z <| .seq <| .seq <| .rs fun k4 => .as rfl <| .z ?_
 refine .block ?_
 refine .loop (X := Nat × Nat × Nat) (fun ζ => .of [(0, .one (.d (.sl false 118 2 (List.map Part.c118 (a))))), (3, .one (.ref [7] (ζ.2.1))), (4, .one (.d (.v (.int .i64 ((ζ.1 : Int))))))] [([7], (ζ.2.1, ζ.2.2, .row 121 2 (List.map Part.co121 (fillTo a (Part.mk [] []) ζ.1))))]) (fun ζ => ζ.1 ≤ a.length) (fun ζ => a.length - ζ.1) ?_ ?_
 ·skip
  refine .rowAs [7] (x := [.v (.slice none 0 0), .v (.slice none 0 0)]) (x' := [.sl true 145 2 ([]), .sl true 106 3 ([])]) (els' := List.map Part.co121 (List.replicate a.length (Part.mk [] []))) rfl rfl (.emp _ _ _ (.emp _ _ _ .nil)) (rep_map _ _ _ rfl) fun q7 => ?_
  exact .here (0, (k3 + 1 + 1), q7) (.of (.cons rfl (.cons (by show SV.one (.ref [7] (k3 + 1 + 1)) = SV.one (.ref [7] ((k3 + 1 + 1))); first | rfl | simp_all) (.cons (svI (show (0) = ((0 : Int)) by first | rfl | omega | exact wrap_le (by omega) (by omega) | (rw [wrap_le (by omega) (by omega)]; omega))) .nil))) (.cons (rowE (show List.map Part.co121 (List.replicate a.length (Part.mk [] [])) = List.map Part.co121 (fillTo a (Part.mk [] []) 0) by first | rfl | (rw [fillTo_zero]) | (rw [fillTo_step _ _ _ (by omega) rfl]))) .nil)) (show 0 ≤ a.length by omega)
 ·rintro ⟨j, q5, q6⟩ hI
  have hI : j ≤ a.length := hI
  dsimp only
  refine .seq <| .seq <| .rs fun k8 => .mv rfl <| .mv rfl <| .g (fun _ τ => ⟨_, .len (.no rfl) rfl (z := (a.length : Int)) t54 rfl rfl rfl (.d _ _) (map_len _ _) rfl τ⟩) <| .bi rfl <| .z ?_
  refine .cond (t := decide ((j : Int) < (a.length : Int))) rfl (fun c0 => ?_) (fun c0 => ?_)
  ·have c0 := of_decide_eq_true c0
   refine .skip <| .seq <| .block <| .rs fun k9 => .mv rfl <| .mv rfl <| .mv rfl <| .mv rfl <| .g (fun _ τ => ⟨_, .indexAddr (.no rfl) rfl (j) t54 rfl t118 rfl rfl rfl (.d _ _) rfl rfl rfl (map_get (by first | omega | (rw [fillTo_len]; omega))) rfl rfl τ⟩) ?_
   refine .lda t118 rfl (.d _) rfl <| .c0 (c_toPart (a.getD j default) (by exact hx _ (getD_mem (by omega)))) rfl (.dd (.dd .nil)) (.own [20, 0] (.own [20, 1] .nil)) rfl <| .g (fun _ τ => ⟨_, .indexAddr (.no rfl) rfl (j) t57 rfl t121 rfl rfl rfl (.ref _ _ _ _ _ rfl) rfl rfl rfl (map_get (by first | omega | (rw [fillTo_len]; omega))) rfl rfl τ⟩) <| .g (fun _ τ => ⟨_, .storeE (.no rfl) rfl (els' := List.map Part.co121 ((fillTo a (Part.mk [] []) j).set j (a.getD j default))) t121 rfl rfl rfl rfl (map_get (by first | omega | (rw [fillTo_len]; omega))) rfl rfl (.cons _ _ _ _ _ _ (.ref _ _ _ _ _ _ rfl) (.cons _ _ _ _ _ _ (.ref _ _ _ _ _ _ rfl) .nil)) rfl (Nat.le_of_ble_eq_true rfl) (set_map _ _ _ (a.getD j default) _ rfl) rfl rfl τ⟩) <| .z <| .rs fun k10 => .mv rfl <| .bi rfl <| .as rfl ?_
   refine .z ?_
   exact .here ((j + 1), q5, (k9 + 1 + 1 + 1 + 1 + 1 + 1 + 1 + 1)) (.of (.cons rfl (.cons rfl (.cons (svI (show (IntKind.wrap .i64 ((j : Int) + 1)) = (((j + 1) : Int)) by first | rfl | omega | exact wrap_le (by omega) (by omega) | (rw [wrap_le (by omega) (by omega)]; omega))) .nil))) (.cons (rowE (show List.map Part.co121 ((fillTo a (Part.mk [] []) j).set j (a.getD j default)) = List.map Part.co121 (fillTo a (Part.mk [] []) (j + 1)) by first | rfl | (rw [fillTo_zero]) | (rw [fillTo_step _ _ _ (by omega) rfl]))) .nil)) ⟨(show (j + 1) ≤ a.length by omega), (show a.length - (j + 1) < a.length - j by omega)⟩
  ·have c0 := of_decide_eq_false c0
   refine .exit <| .seq <| .rs fun k11 => .mv rfl <| .as rfl <| .z <| .ret ?_
   have e12 : (fillTo a (Part.mk [] []) j) = (a) := by (exact fillTo_all _ _ (by omega))
   exact fin1 (.inr rfl) [] [([7], (q5, q6, .row 121 2 (List.map Part.co121 (a))))] (.one rfl .nil) (.cons (.ref (.head _)) .nil) rfl rfl (.cons (rowE (congrArg (List.map Part.co121) e12)) .nil)
end Go.Proofs

namespace Go.Proofs
open Go Go.Proofs Go.Ev

theorem c_eqEnvS (a : List Env) (b : List Env) : Trip Tryz.prog 24 [(false, 1), (false, 1)] ([.sl false 106 3 (List.map Env.c106 (a))] ++ [.sl false 106 3 (List.map Env.c106 (b))]) [(false, 1)] [.v (.bool (all2 Env.same a b))] [] := by
 refine Trip.of Tryz.func24 (by decide) (c := _) rfl rfl (shB_ok rfl) (Nat.le_of_ble_eq_true rfl) rfl (AftOk.nil _) <| .sl (t := 0) rfl fun hs1l => .sl (t := 1) rfl fun hs2l => .seq <| .rs fun k3 => .as rfl <| .z <| .seq <| .seq ?_
 refine .rs fun k4 => .mv rfl <| .g (fun _ τ => ⟨_, .len (.no rfl) rfl (z := (a.length : Int)) t46 rfl rfl rfl (.d _ _) (map_len _ _) rfl τ⟩) <| .mv rfl <| .g (fun _ τ => ⟨_, .len (.no rfl) rfl (z := (b.length : Int)) t46 rfl rfl rfl (.d _ _) (map_len _ _) rfl τ⟩) <| .bi rfl <| .z ?_
 refine .cond (t := (a.length : Int) != (b.length : Int)) rfl (fun c0 => ?_) (fun c0 => ?_)
 ·have c0 := (by simpa using c0 : ¬ ((a.length : Int) = (b.length : Int)))
  refine .seq <| .rs fun k5 => .as rfl <| .z <| .ret ?_
  exact fin0 (.inr rfl) (.one (svB (show (false) = (all2 Env.same a b) by exact (all2_ne _ c0).symm)) .nil) (.dd .nil) rfl
 ·have c0 := (by simpa using c0 : (a.length : Int) = (b.length : Int))
  refine .skip <| .seq <| .seq <| .rs fun k7 => .as rfl <| .z <| .block ?_
  refine .loop (X := Nat) (fun ζ => .of [(0, .one (.d (.sl false 106 3 (List.map Env.c106 (a))))), (1, .one (.d (.sl false 106 3 (List.map Env.c106 (b))))), (5, .one (.d (.v (.int .i64 ((ζ : Int))))))] []) (fun ζ => ζ ≤ a.length ∧ a.length = b.length ∧ allTo ζ (fun i => Env.same (a.getD i default) (b.getD i default)) = true) (fun ζ => a.length - ζ) ?_ ?_
  ·skip
   exact .here 0 (.of (.cons rfl (.cons rfl (.cons (svI (show (0) = ((0 : Int)) by first | rfl | omega | exact wrap_le (by omega) (by omega) | (rw [wrap_le (by omega) (by omega)]; omega))) .nil))) .nil) (show 0 ≤ a.length ∧ a.length = b.length ∧ allTo 0 (fun i => Env.same (a.getD i default) (b.getD i default)) = true by exact ⟨by omega, by omega, rfl⟩)
  ·rintro j hI
   have hI : j ≤ a.length ∧ a.length = b.length ∧ allTo j (fun i => Env.same (a.getD i default) (b.getD i default)) = true := hI
   refine .seq <| .seq <| .rs fun k8 => .mv rfl <| .mv rfl <| .g (fun _ τ => ⟨_, .len (.no rfl) rfl (z := (a.length : Int)) t46 rfl rfl rfl (.d _ _) (map_len _ _) rfl τ⟩) <| .bi rfl <| .z ?_
   refine .cond (t := decide ((j : Int) < (a.length : Int))) rfl (fun c1 => ?_) (fun c1 => ?_)
   ·have c1 := of_decide_eq_true c1
    refine .skip <| .seq <| .block <| .seq ?_
    refine .regD (X := Unit) (by kernel_rfl) (fun ζ => .of [(0, .one (.d (.sl false 106 3 (List.map Env.c106 (a))))), (1, .one (.d (.sl false 106 3 (List.map Env.c106 (b))))), (5, .one (.d (.v (.int .i64 ((j : Int)))))), (26, .one (.d (.v (.bool (!(Env.same (a.getD j default) (b.getD j default)))))))] []) [⟨[0], some 17, [], []⟩, ⟨[5], some 18, [], []⟩, ⟨[17, 18], some 19, [], []⟩, ⟨[19], some 20, [], []⟩, ⟨[1], some 21, [], []⟩, ⟨[5], some 22, [], []⟩, ⟨[21, 22], some 23, [], []⟩, ⟨[23], some 24, [], []⟩, ⟨[20, 24], some 25, [], []⟩, ⟨[25], some 26, [], []⟩] (by kernel_rfl) (fun k9 => ?_) ?_
    ·skip
     refine .move (.no rfl) rfl rfl rfl rfl <| .move (.no rfl) rfl rfl rfl rfl <| .indexAddr (.no rfl) rfl (j) t46 rfl t106 rfl rfl rfl (.d _ _) rfl rfl rfl (map_get (by omega)) rfl rfl <| .load (.no rfl) rfl t106 rfl rfl (.d _) rfl rfl rfl rfl <| .move (.no rfl) rfl rfl rfl rfl <| .move (.no rfl) rfl rfl rfl rfl <| .indexAddr (.no rfl) rfl (j) t46 rfl t106 rfl rfl rfl (.d _ _) rfl rfl rfl (map_get (by omega)) rfl rfl <| .load (.no rfl) rfl t106 rfl rfl (.d _) rfl rfl rfl rfl <| .call (.no rfl) rfl [] [] (c_eqEnv (a.getD j default) (b.getD j default)) rfl rfl rfl rfl rfl (.dd (.dd (.dd (.dd (.dd (.dd .nil)))))) rfl rfl (fun h => absurd rfl h) (.own [25, 0] .nil) (.nil) rfl rfl rfl (by simp) rfl rfl rfl ?_
     refine .un (.no rfl) rfl rfl rfl rfl rfl ?_
     exact .fin () (.of (.r rfl) .nil)
    intro _
    refine .cond (t := !(Env.same (a.getD j default) (b.getD j default))) rfl (fun c2 => ?_) (fun c2 => ?_)
    ·have c2 := (nT id) c2
     refine .seq <| .rs fun k10 => .as rfl <| .z <| .ret ?_
     exact fin0 (.inr rfl) (.one (svB (show (false) = (all2 Env.same a b) by exact (all2_fail _ (j := j) (by omega) (by simpa [] using c2)).symm)) .nil) (.dd .nil) rfl
    ·have c2 := (nF id) c2
     refine .skip <| .rs fun k12 => .mv rfl <| .bi rfl <| .as rfl <| .z ?_
     exact .here (j + 1) (.of (.cons rfl (.cons rfl (.cons (svI (show (IntKind.wrap .i64 ((j : Int) + 1)) = (((j + 1) : Int)) by first | rfl | omega | exact wrap_le (by omega) (by omega) | (rw [wrap_le (by omega) (by omega)]; omega))) .nil))) .nil) ⟨(show (j + 1) ≤ a.length ∧ a.length = b.length ∧ allTo (j + 1) (fun i => Env.same (a.getD i default) (b.getD i default)) = true by exact ⟨by omega, by omega, allTo_step hI.2.2 (by simpa [] using c2)⟩), (show a.length - (j + 1) < a.length - j by omega)⟩
   ·have c1 := of_decide_eq_false c1
    refine .exit <| .seq <| .rs fun k13 => .as rfl <| .z <| .ret ?_
    exact fin0 (.inr rfl) (.one (svB (show (true) = (all2 Env.same a b) by (have hj : j = a.length := (by omega); subst hj; exact (all2_done _ hI.2.1 hI.2.2).symm))) .nil) (.dd .nil) rfl
theorem c_eqBoolS (a : List Bool) (b : List Bool) : Trip Tryz.prog 117 [(false, 1), (false, 1)] ([.sl false 4 1 (List.map boolc (a))] ++ [.sl false 4 1 (List.map boolc (b))]) [(false, 1)] [.v (.bool (all2 boolEq a b))] [] := by
 refine Trip.of Tryz.func117 (by decide) (c := _) rfl rfl (shB_ok rfl) (Nat.le_of_ble_eq_true rfl) rfl (AftOk.nil _) <| .sl (t := 0) rfl fun hs1l => .sl (t := 1) rfl fun hs2l => .seq <| .rs fun k3 => .as rfl <| .z <| .seq <| .seq ?_
 refine .rs fun k4 => .mv rfl <| .g (fun _ τ => ⟨_, .len (.no rfl) rfl (z := (a.length : Int)) t65 rfl rfl rfl (.d _ _) (map_len _ _) rfl τ⟩) <| .mv rfl <| .g (fun _ τ => ⟨_, .len (.no rfl) rfl (z := (b.length : Int)) t65 rfl rfl rfl (.d _ _) (map_len _ _) rfl τ⟩) <| .bi rfl <| .z ?_
 refine .cond (t := (a.length : Int) != (b.length : Int)) rfl (fun c0 => ?_) (fun c0 => ?_)
 ·have c0 := (by simpa using c0 : ¬ ((a.length : Int) = (b.length : Int)))
  refine .seq <| .rs fun k5 => .as rfl <| .z <| .ret ?_
  exact fin0 (.inr rfl) (.one (svB (show (false) = (all2 boolEq a b) by exact (all2_ne _ c0).symm)) .nil) (.dd .nil) rfl
 ·have c0 := (by simpa using c0 : (a.length : Int) = (b.length : Int))
  refine .skip <| .seq <| .seq <| .rs fun k7 => .as rfl <| .z <| .block ?_
  refine .loop (X := Nat) (fun ζ => .of [(0, .one (.d (.sl false 4 1 (List.map boolc (a))))), (1, .one (.d (.sl false 4 1 (List.map boolc (b))))), (5, .one (.d (.v (.int .i64 ((ζ : Int))))))] []) (fun ζ => ζ ≤ a.length ∧ a.length = b.length ∧ allTo ζ (fun i => boolEq (a.getD i default) (b.getD i default)) = true) (fun ζ => a.length - ζ) ?_ ?_
  ·skip
   exact .here 0 (.of (.cons rfl (.cons rfl (.cons (svI (show (0) = ((0 : Int)) by first | rfl | omega | exact wrap_le (by omega) (by omega) | (rw [wrap_le (by omega) (by omega)]; omega))) .nil))) .nil) (show 0 ≤ a.length ∧ a.length = b.length ∧ allTo 0 (fun i => boolEq (a.getD i default) (b.getD i default)) = true by exact ⟨by omega, by omega, rfl⟩)
  ·rintro j hI
   have hI : j ≤ a.length ∧ a.length = b.length ∧ allTo j (fun i => boolEq (a.getD i default) (b.getD i default)) = true := hI
   refine .seq <| .seq <| .rs fun k8 => .mv rfl <| .mv rfl <| .g (fun _ τ => ⟨_, .len (.no rfl) rfl (z := (a.length : Int)) t65 rfl rfl rfl (.d _ _) (map_len _ _) rfl τ⟩) <| .bi rfl <| .z ?_
   refine .cond (t := decide ((j : Int) < (a.length : Int))) rfl (fun c1 => ?_) (fun c1 => ?_)
   ·have c1 := of_decide_eq_true c1
    refine .skip <| .seq <| .block <| .seq ?_
    refine .regD (X := Unit) (by kernel_rfl) (fun ζ => .of [(0, .one (.d (.sl false 4 1 (List.map boolc (a))))), (1, .one (.d (.sl false 4 1 (List.map boolc (b))))), (5, .one (.d (.v (.int .i64 ((j : Int)))))), (25, .one (.d (.v (.bool ((a.getD j default) != (b.getD j default))))))] []) [⟨[0], some 17, [], []⟩, ⟨[5], some 18, [], []⟩, ⟨[17, 18], some 19, [], []⟩, ⟨[19], some 20, [], []⟩, ⟨[1], some 21, [], []⟩, ⟨[5], some 22, [], []⟩, ⟨[21, 22], some 23, [], []⟩, ⟨[23], some 24, [], []⟩, ⟨[20, 24], some 25, [], []⟩] (by kernel_rfl) (fun k9 => ?_) ?_
    ·skip
     refine .move (.no rfl) rfl rfl rfl rfl <| .move (.no rfl) rfl rfl rfl rfl <| .indexAddr (.no rfl) rfl (j) t65 rfl t4 rfl rfl rfl (.d _ _) rfl rfl rfl (map_get (by omega)) rfl rfl <| .load (.no rfl) rfl t4 rfl rfl (.d _) rfl rfl rfl rfl <| .move (.no rfl) rfl rfl rfl rfl <| .move (.no rfl) rfl rfl rfl rfl <| .indexAddr (.no rfl) rfl (j) t65 rfl t4 rfl rfl rfl (.d _ _) rfl rfl rfl (map_get (by omega)) rfl rfl <| .load (.no rfl) rfl t4 rfl rfl (.d _) rfl rfl rfl rfl <| .neB (.no rfl) rfl t4 rfl rfl rfl rfl rfl ?_
     exact .fin () (.of (.r rfl) .nil)
    intro _
    refine .cond (t := (a.getD j default) != (b.getD j default)) rfl (fun c2 => ?_) (fun c2 => ?_)
    ·have c2 := (by simpa using c2 : ¬ ((a.getD j default) = (b.getD j default)))
     refine .seq <| .rs fun k10 => .as rfl <| .z <| .ret ?_
     exact fin0 (.inr rfl) (.one (svB (show (false) = (all2 boolEq a b) by exact (all2_fail _ (j := j) (by omega) (by simpa [boolEq] using c2)).symm)) .nil) (.dd .nil) rfl
    ·have c2 := (by simpa using c2 : (a.getD j default) = (b.getD j default))
     refine .skip <| .rs fun k12 => .mv rfl <| .bi rfl <| .as rfl <| .z ?_
     exact .here (j + 1) (.of (.cons rfl (.cons rfl (.cons (svI (show (IntKind.wrap .i64 ((j : Int) + 1)) = (((j + 1) : Int)) by first | rfl | omega | exact wrap_le (by omega) (by omega) | (rw [wrap_le (by omega) (by omega)]; omega))) .nil))) .nil) ⟨(show (j + 1) ≤ a.length ∧ a.length = b.length ∧ allTo (j + 1) (fun i => boolEq (a.getD i default) (b.getD i default)) = true by exact ⟨by omega, by omega, allTo_step hI.2.2 (by simpa [boolEq] using c2)⟩), (show a.length - (j + 1) < a.length - j by omega)⟩
   ·have c1 := of_decide_eq_false c1
    refine .exit <| .seq <| .rs fun k13 => .as rfl <| .z <| .ret ?_
    exact fin0 (.inr rfl) (.one (svB (show (true) = (all2 boolEq a b) by (have hj : j = a.length := (by omega); subst hj; exact (all2_done _ hI.2.1 hI.2.2).symm))) .nil) (.dd .nil) rfl
theorem c_eqInt64SS (a : List (List Int)) (b : List (List Int)) : Trip Tryz.prog 118 [(false, 1), (false, 1)] ([.sl false 64 1 (List.map slc64 (a))] ++ [.sl false 64 1 (List.map slc64 (b))]) [(false, 1)] [.v (.bool (all2 (all2 intEq) a b))] [] := by
 refine Trip.of Tryz.func118 (by decide) (c := _) rfl rfl (shB_ok rfl) (Nat.le_of_ble_eq_true rfl) rfl (AftOk.nil _) <| .sl (t := 0) rfl fun hs1l => .sl (t := 1) rfl fun hs2l => .seq <| .rs fun k3 => .as rfl <| .z <| .seq <| .seq ?_
 refine .rs fun k4 => .mv rfl <| .g (fun _ τ => ⟨_, .len (.no rfl) rfl (z := (a.length : Int)) t66 rfl rfl rfl (.d _ _) (map_len _ _) rfl τ⟩) <| .mv rfl <| .g (fun _ τ => ⟨_, .len (.no rfl) rfl (z := (b.length : Int)) t66 rfl rfl rfl (.d _ _) (map_len _ _) rfl τ⟩) <| .bi rfl <| .z ?_
 refine .cond (t := (a.length : Int) != (b.length : Int)) rfl (fun c0 => ?_) (fun c0 => ?_)
 ·have c0 := (by simpa using c0 : ¬ ((a.length : Int) = (b.length : Int)))
  refine .seq <| .rs fun k5 => .as rfl <| .z <| .ret ?_
  exact fin0 (.inr rfl) (.one (svB (show (false) = (all2 (all2 intEq) a b) by exact (all2_ne _ c0).symm)) .nil) (.dd .nil) rfl
 ·have c0 := (by simpa using c0 : (a.length : Int) = (b.length : Int))
  refine .skip <| .seq <| .seq <| .rs fun k7 => .as rfl <| .z <| .block ?_
  refine .loop (X := Nat) (fun ζ => .of [(0, .one (.d (.sl false 64 1 (List.map slc64 (a))))), (1, .one (.d (.sl false 64 1 (List.map slc64 (b))))), (5, .one (.d (.v (.int .i64 ((ζ : Int))))))] []) (fun ζ => ζ ≤ a.length ∧ a.length = b.length ∧ allTo ζ (fun i => (all2 intEq) (a.getD i default) (b.getD i default)) = true) (fun ζ => a.length - ζ) ?_ ?_
  ·skip
   exact .here 0 (.of (.cons rfl (.cons rfl (.cons (svI (show (0) = ((0 : Int)) by first | rfl | omega | exact wrap_le (by omega) (by omega) | (rw [wrap_le (by omega) (by omega)]; omega))) .nil))) .nil) (show 0 ≤ a.length ∧ a.length = b.length ∧ allTo 0 (fun i => (all2 intEq) (a.getD i default) (b.getD i default)) = true by exact ⟨by omega, by omega, rfl⟩)
  ·rintro j hI
   have hI : j ≤ a.length ∧ a.length = b.length ∧ allTo j (fun i => (all2 intEq) (a.getD i default) (b.getD i default)) = true := hI
   refine .seq <| .seq <| .rs fun k8 => .mv rfl <| .mv rfl <| .g (fun _ τ => ⟨_, .len (.no rfl) rfl (z := (a.length : Int)) t66 rfl rfl rfl (.d _ _) (map_len _ _) rfl τ⟩) <| .bi rfl <| .z ?_
   refine .cond (t := decide ((j : Int) < (a.length : Int))) rfl (fun c1 => ?_) (fun c1 => ?_)
   ·have c1 := of_decide_eq_true c1
    refine .skip <| .seq <| .block <| .seq ?_
    refine .regD (X := Unit) (by kernel_rfl) (fun ζ => .of [(0, .one (.d (.sl false 64 1 (List.map slc64 (a))))), (1, .one (.d (.sl false 64 1 (List.map slc64 (b))))), (5, .one (.d (.v (.int .i64 ((j : Int)))))), (26, .one (.d (.v (.bool (!(all2 intEq (a.getD j default) (b.getD j default)))))))] []) [⟨[0], some 17, [], []⟩, ⟨[5], some 18, [], []⟩, ⟨[17, 18], some 19, [], []⟩, ⟨[19], some 20, [], []⟩, ⟨[1], some 21, [], []⟩, ⟨[5], some 22, [], []⟩, ⟨[21, 22], some 23, [], []⟩, ⟨[23], some 24, [], []⟩, ⟨[20, 24], some 25, [], []⟩, ⟨[25], some 26, [], []⟩] (by kernel_rfl) (fun k9 => ?_) ?_
    ·skip
     refine .move (.no rfl) rfl rfl rfl rfl <| .move (.no rfl) rfl rfl rfl rfl <| .indexAddr (.no rfl) rfl (j) t66 rfl t64 rfl rfl rfl (.d _ _) rfl rfl rfl (map_get (by omega)) rfl rfl <| .load (.no rfl) rfl t64 rfl rfl (.d _) rfl rfl rfl rfl <| .move (.no rfl) rfl rfl rfl rfl <| .move (.no rfl) rfl rfl rfl rfl <| .indexAddr (.no rfl) rfl (j) t66 rfl t64 rfl rfl rfl (.d _ _) rfl rfl rfl (map_get (by omega)) rfl rfl <| .load (.no rfl) rfl t64 rfl rfl (.d _) rfl rfl rfl rfl <| .call (.no rfl) rfl [] [] (c_eqInt64S (a.getD j default) (b.getD j default)) rfl rfl rfl rfl rfl (.dd (.dd .nil)) rfl rfl (fun h => absurd rfl h) (.own [25, 0] .nil) (.nil) rfl rfl rfl (by simp) rfl rfl rfl ?_
     refine .un (.no rfl) rfl rfl rfl rfl rfl ?_
     exact .fin () (.of (.r rfl) .nil)
    intro _
    refine .cond (t := !(all2 intEq (a.getD j default) (b.getD j default))) rfl (fun c2 => ?_) (fun c2 => ?_)
    ·have c2 := (nT id) c2
     refine .seq <| .rs fun k10 => .as rfl <| .z <| .ret ?_
     exact fin0 (.inr rfl) (.one (svB (show (false) = (all2 (all2 intEq) a b) by exact (all2_fail _ (j := j) (by omega) (by simpa [] using c2)).symm)) .nil) (.dd .nil) rfl
    ·have c2 := (nF id) c2
     refine .skip <| .rs fun k12 => .mv rfl <| .bi rfl <| .as rfl <| .z ?_
     exact .here (j + 1) (.of (.cons rfl (.cons rfl (.cons (svI (show (IntKind.wrap .i64 ((j : Int) + 1)) = (((j + 1) : Int)) by first | rfl | omega | exact wrap_le (by omega) (by omega) | (rw [wrap_le (by omega) (by omega)]; omega))) .nil))) .nil) ⟨(show (j + 1) ≤ a.length ∧ a.length = b.length ∧ allTo (j + 1) (fun i => (all2 intEq) (a.getD i default) (b.getD i default)) = true by exact ⟨by omega, by omega, allTo_step hI.2.2 (by simpa [] using c2)⟩), (show a.length - (j + 1) < a.length - j by omega)⟩
   ·have c1 := of_decide_eq_false c1
    refine .exit <| .seq <| .rs fun k13 => .as rfl <| .z <| .ret ?_
    exact fin0 (.inr rfl) (.one (svB (show (true) = (all2 (all2 intEq) a b) by (have hj : j = a.length := (by omega); subst hj; exact (all2_done _ hI.2.1 hI.2.2).symm))) .nil) (.dd .nil) rfl
theorem c_eqStore (a : Store) (b : Store) : Trip Tryz.prog 46 [(true, 3), (true, 3)] (Store.c74 a ++ Store.c74 b) [(false, 1)] [.v (.bool (Store.same a b))] [] := by
 refine Trip.of Tryz.func46 (by decide) (c := _) rfl rfl (shB_ok rfl) (Nat.le_of_ble_eq_true rfl) rfl (AftOk.nil _) <| .sla (t := 0) 0 rfl rfl fun hs1l => .sla (t := 0) 1 rfl rfl fun hs2l => .sla (t := 0) 2 rfl rfl fun hs3l => .sla (t := 1) 0 rfl rfl fun hs4l => .sla (t := 1) 1 rfl rfl fun hs5l => .sla (t := 1) 2 rfl rfl fun hs6l => .seq <| .rs fun k7 => ?_
 refine .g (fun _ τ => ⟨_, .box (.no rfl) rfl rfl rfl rfl rfl τ⟩) <| .g (fun _ τ => ⟨_, .box (.no rfl) rfl rfl rfl rfl rfl τ⟩) <| .as rfl <| .z <| .seq <| .seq <| .rs fun k8 => .fp t74 t64 rfl <| .ld t64 rfl (.ptr _ _ _ _ _ rfl) rfl ?_
 refine .fp t74 t64 rfl <| .ld t64 rfl (.ptr _ _ _ _ _ rfl) rfl <| .c0 (c_eqInt64S a.ints b.ints) rfl (.dd (.dd .nil)) (.own [9, 0] .nil) rfl <| .un rfl <| .z ?_
 refine .cond (t := !(all2 intEq a.ints b.ints)) rfl (fun c0 => ?_) (fun c0 => ?_)
 ·have c0 := (nT id) c0
  refine .seq <| .rs fun k9 => .as rfl <| .z <| .ret ?_
  exact fin0 (.inr rfl) (.one (svB (show (false) = (Store.same a b) by (simp_all [Store.same]))) .nil) (.dd .nil) rfl
 ·have c0 := (nF id) c0
  refine .skip <| .seq <| .seq <| .rs fun k11 => .fp t74 t65 rfl <| .ld t65 rfl (.ptr _ _ _ _ _ rfl) rfl <| .fp t74 t65 rfl <| .ld t65 rfl (.ptr _ _ _ _ _ rfl) rfl <| .c0 (c_eqBoolS a.flags b.flags) rfl (.dd (.dd .nil)) (.own [15, 0] .nil) rfl ?_
  refine .un rfl <| .z ?_
  refine .cond (t := !(all2 boolEq a.flags b.flags)) rfl (fun c1 => ?_) (fun c1 => ?_)
  ·have c1 := (nT id) c1
   refine .seq <| .rs fun k12 => .as rfl <| .z <| .ret ?_
   exact fin0 (.inr rfl) (.one (svB (show (false) = (Store.same a b) by (simp_all [Store.same]))) .nil) (.dd .nil) rfl
  ·have c1 := (nF id) c1
   refine .skip <| .seq <| .seq <| .rs fun k14 => .fp t74 t66 rfl <| .ld t66 rfl (.ptr _ _ _ _ _ rfl) rfl <| .fp t74 t66 rfl <| .ld t66 rfl (.ptr _ _ _ _ _ rfl) rfl <| .c0 (c_eqInt64SS a.arrs b.arrs) rfl (.dd (.dd .nil)) (.own [21, 0] .nil) rfl ?_
   refine .un rfl <| .z ?_
   refine .cond (t := !(all2 (all2 intEq) a.arrs b.arrs)) rfl (fun c2 => ?_) (fun c2 => ?_)
   ·have c2 := (nT id) c2
    refine .seq <| .rs fun k15 => .as rfl <| .z <| .ret ?_
    exact fin0 (.inr rfl) (.one (svB (show (false) = (Store.same a b) by (simp_all [Store.same]))) .nil) (.dd .nil) rfl
   ·have c2 := (nF id) c2
    refine .skip <| .seq <| .rs fun k17 => .as rfl <| .z <| .ret ?_
    exact fin0 (.inr rfl) (.one (svB (show (true) = (Store.same a b) by (simp_all [Store.same]))) .nil) (.dd .nil) rfl
theorem c_eqEntry (a : Entry) (b : Entry) : Trip Tryz.prog 116 [(true, 2), (true, 2)] (Entry.c a ++ Entry.c b) [(false, 1)] [.v (.bool (Entry.same a b))] [] := by
 refine Trip.of Tryz.func116 (by decide) (c := _) rfl rfl (shB_ok rfl) (Nat.le_of_ble_eq_true rfl) rfl (AftOk.nil _) <| .seq <| .rs fun k1 => .g (fun _ τ => ⟨_, .box (.no rfl) rfl rfl rfl rfl rfl τ⟩) <| .g (fun _ τ => ⟨_, .box (.no rfl) rfl rfl rfl rfl rfl τ⟩) <| .as rfl <| .z <| .seq <| .seq ?_
 refine .rs fun k2 => .fp t145 t2 rfl <| .ld t2 rfl (.ptr _ _ _ _ _ rfl) rfl <| .fp t145 t2 rfl <| .ld t2 rfl (.ptr _ _ _ _ _ rfl) rfl <| .bi rfl <| .z ?_
 refine .cond (t := a.line != b.line) rfl (fun c0 => ?_) (fun c0 => ?_)
 ·have c0 := (by simpa using c0 : ¬ (a.line = b.line))
  refine .seq <| .rs fun k3 => .as rfl <| .z <| .ret ?_
  exact fin0 (.inr rfl) (.one (svB (show (false) = (Entry.same a b) by (simp_all [Entry.same]))) .nil) (.dd .nil) rfl
 ·have c0 := (by simpa using c0 : a.line = b.line)
  refine .skip <| .seq <| .seq <| .rs fun k5 => .fp t145 t2 rfl <| .ld t2 rfl (.ptr _ _ _ _ _ rfl) rfl <| .fp t145 t2 rfl <| .ld t2 rfl (.ptr _ _ _ _ _ rfl) rfl <| .bi rfl ?_
  refine .z ?_
  refine .cond (t := a.pick != b.pick) rfl (fun c1 => ?_) (fun c1 => ?_)
  ·have c1 := (by simpa using c1 : ¬ (a.pick = b.pick))
   refine .seq <| .rs fun k6 => .as rfl <| .z <| .ret ?_
   exact fin0 (.inr rfl) (.one (svB (show (false) = (Entry.same a b) by (simp_all [Entry.same]))) .nil) (.dd .nil) rfl
  ·have c1 := (by simpa using c1 : a.pick = b.pick)
   refine .skip <| .seq <| .rs fun k8 => .as rfl <| .z <| .ret ?_
   exact fin0 (.inr rfl) (.one (svB (show (true) = (Entry.same a b) by (simp_all [Entry.same]))) .nil) (.dd .nil) rfl
theorem c_eqEntryS (a : List Entry) (b : List Entry) : Trip Tryz.prog 45 [(false, 1), (false, 1)] ([.sl false 145 2 (List.map Entry.c (a))] ++ [.sl false 145 2 (List.map Entry.c (b))]) [(false, 1)] [.v (.bool (all2 Entry.same a b))] [] := by
 refine Trip.of Tryz.func45 (by decide) (c := _) rfl rfl (shB_ok rfl) (Nat.le_of_ble_eq_true rfl) rfl (AftOk.nil _) <| .sl (t := 0) rfl fun hs1l => .sl (t := 1) rfl fun hs2l => .seq <| .rs fun k3 => .as rfl <| .z <| .seq <| .seq ?_
 refine .rs fun k4 => .mv rfl <| .g (fun _ τ => ⟨_, .len (.no rfl) rfl (z := (a.length : Int)) t72 rfl rfl rfl (.d _ _) (map_len _ _) rfl τ⟩) <| .mv rfl <| .g (fun _ τ => ⟨_, .len (.no rfl) rfl (z := (b.length : Int)) t72 rfl rfl rfl (.d _ _) (map_len _ _) rfl τ⟩) <| .bi rfl <| .z ?_
 refine .cond (t := (a.length : Int) != (b.length : Int)) rfl (fun c0 => ?_) (fun c0 => ?_)
 ·have c0 := (by simpa using c0 : ¬ ((a.length : Int) = (b.length : Int)))
  refine .seq <| .rs fun k5 => .as rfl <| .z <| .ret ?_
  exact fin0 (.inr rfl) (.one (svB (show (false) = (all2 Entry.same a b) by exact (all2_ne _ c0).symm)) .nil) (.dd .nil) rfl
 ·have c0 := (by simpa using c0 : (a.length : Int) = (b.length : Int))
  refine .skip <| .seq <| .seq <| .rs fun k7 => .as rfl <| .z <| .block ?_
  refine .loop (X := Nat) (fun ζ => .of [(0, .one (.d (.sl false 145 2 (List.map Entry.c (a))))), (1, .one (.d (.sl false 145 2 (List.map Entry.c (b))))), (5, .one (.d (.v (.int .i64 ((ζ : Int))))))] []) (fun ζ => ζ ≤ a.length ∧ a.length = b.length ∧ allTo ζ (fun i => Entry.same (a.getD i default) (b.getD i default)) = true) (fun ζ => a.length - ζ) ?_ ?_
  ·skip
   exact .here 0 (.of (.cons rfl (.cons rfl (.cons (svI (show (0) = ((0 : Int)) by first | rfl | omega | exact wrap_le (by omega) (by omega) | (rw [wrap_le (by omega) (by omega)]; omega))) .nil))) .nil) (show 0 ≤ a.length ∧ a.length = b.length ∧ allTo 0 (fun i => Entry.same (a.getD i default) (b.getD i default)) = true by exact ⟨by omega, by omega, rfl⟩)
  ·rintro j hI
   have hI : j ≤ a.length ∧ a.length = b.length ∧ allTo j (fun i => Entry.same (a.getD i default) (b.getD i default)) = true := hI
   refine .seq <| .seq <| .rs fun k8 => .mv rfl <| .mv rfl <| .g (fun _ τ => ⟨_, .len (.no rfl) rfl (z := (a.length : Int)) t72 rfl rfl rfl (.d _ _) (map_len _ _) rfl τ⟩) <| .bi rfl <| .z ?_
   refine .cond (t := decide ((j : Int) < (a.length : Int))) rfl (fun c1 => ?_) (fun c1 => ?_)
   ·have c1 := of_decide_eq_true c1
    refine .skip <| .seq <| .block <| .seq ?_
    refine .regD (X := Unit) (by kernel_rfl) (fun ζ => .of [(0, .one (.d (.sl false 145 2 (List.map Entry.c (a))))), (1, .one (.d (.sl false 145 2 (List.map Entry.c (b))))), (5, .one (.d (.v (.int .i64 ((j : Int)))))), (26, .one (.d (.v (.bool (!(Entry.same (a.getD j default) (b.getD j default)))))))] []) [⟨[0], some 17, [], []⟩, ⟨[5], some 18, [], []⟩, ⟨[17, 18], some 19, [], []⟩, ⟨[19], some 20, [], []⟩, ⟨[1], some 21, [], []⟩, ⟨[5], some 22, [], []⟩, ⟨[21, 22], some 23, [], []⟩, ⟨[23], some 24, [], []⟩, ⟨[20, 24], some 25, [], []⟩, ⟨[25], some 26, [], []⟩] (by kernel_rfl) (fun k9 => ?_) ?_
    ·skip
     refine .move (.no rfl) rfl rfl rfl rfl <| .move (.no rfl) rfl rfl rfl rfl <| .indexAddr (.no rfl) rfl (j) t72 rfl t145 rfl rfl rfl (.d _ _) rfl rfl rfl (map_get (by omega)) rfl rfl <| .load (.no rfl) rfl t145 rfl rfl (.d _) rfl rfl rfl rfl <| .move (.no rfl) rfl rfl rfl rfl <| .move (.no rfl) rfl rfl rfl rfl <| .indexAddr (.no rfl) rfl (j) t72 rfl t145 rfl rfl rfl (.d _ _) rfl rfl rfl (map_get (by omega)) rfl rfl <| .load (.no rfl) rfl t145 rfl rfl (.d _) rfl rfl rfl rfl <| .call (.no rfl) rfl [] [] (c_eqEntry (a.getD j default) (b.getD j default)) rfl rfl rfl rfl rfl (.dd (.dd (.dd (.dd .nil)))) rfl rfl (fun h => absurd rfl h) (.own [25, 0] .nil) (.nil) rfl rfl rfl (by simp) rfl rfl rfl ?_
     refine .un (.no rfl) rfl rfl rfl rfl rfl ?_
     exact .fin () (.of (.r rfl) .nil)
    intro _
    refine .cond (t := !(Entry.same (a.getD j default) (b.getD j default))) rfl (fun c2 => ?_) (fun c2 => ?_)
    ·have c2 := (nT id) c2
     refine .seq <| .rs fun k10 => .as rfl <| .z <| .ret ?_
     exact fin0 (.inr rfl) (.one (svB (show (false) = (all2 Entry.same a b) by exact (all2_fail _ (j := j) (by omega) (by simpa [] using c2)).symm)) .nil) (.dd .nil) rfl
    ·have c2 := (nF id) c2
     refine .skip <| .rs fun k12 => .mv rfl <| .bi rfl <| .as rfl <| .z ?_
     exact .here (j + 1) (.of (.cons rfl (.cons rfl (.cons (svI (show (IntKind.wrap .i64 ((j : Int) + 1)) = (((j + 1) : Int)) by first | rfl | omega | exact wrap_le (by omega) (by omega) | (rw [wrap_le (by omega) (by omega)]; omega))) .nil))) .nil) ⟨(show (j + 1) ≤ a.length ∧ a.length = b.length ∧ allTo (j + 1) (fun i => Entry.same (a.getD i default) (b.getD i default)) = true by exact ⟨by omega, by omega, allTo_step hI.2.2 (by simpa [] using c2)⟩), (show a.length - (j + 1) < a.length - j by omega)⟩
   ·have c1 := of_decide_eq_false c1
    refine .exit <| .seq <| .rs fun k13 => .as rfl <| .z <| .ret ?_
    exact fin0 (.inr rfl) (.one (svB (show (true) = (all2 Entry.same a b) by (have hj : j = a.length := (by omega); subst hj; exact (all2_done _ hI.2.1 hI.2.2).symm))) .nil) (.dd .nil) rfl
theorem c_eqPart (a : Part) (b : Part) : Trip Tryz.prog 87 [(true, 2), (true, 2)] (Part.c121 a ++ Part.c121 b) [(false, 1)] [.v (.bool (Part.same a b))] [] := by
 refine Trip.of Tryz.func87 (by decide) (c := _) rfl rfl (shB_ok rfl) (Nat.le_of_ble_eq_true rfl) rfl (AftOk.nil _) <| .sla (t := 0) 0 rfl rfl fun hs1l => .sla (t := 0) 1 rfl rfl fun hs2l => .sla (t := 1) 0 rfl rfl fun hs3l => .sla (t := 1) 1 rfl rfl fun hs4l => .seq <| .rs fun k5 => .g (fun _ τ => ⟨_, .box (.no rfl) rfl rfl rfl rfl rfl τ⟩) <| .g (fun _ τ => ⟨_, .box (.no rfl) rfl rfl rfl rfl rfl τ⟩) ?_
 refine .as rfl <| .z <| .seq <| .seq <| .rs fun k6 => .fp t121 t72 rfl <| .ld t72 rfl (.ptr _ _ _ _ _ rfl) rfl <| .fp t121 t72 rfl <| .ld t72 rfl (.ptr _ _ _ _ _ rfl) rfl ?_
 refine .c0 (c_eqEntryS a.token b.token) rfl (.dd (.dd .nil)) (.own [9, 0] .nil) rfl <| .un rfl <| .z ?_
 refine .cond (t := !(all2 Entry.same a.token b.token)) rfl (fun c0 => ?_) (fun c0 => ?_)
 ·have c0 := (nT id) c0
  refine .seq <| .rs fun k7 => .as rfl <| .z <| .ret ?_
  exact fin0 (.inr rfl) (.one (svB (show (false) = (Part.same a b) by (simp_all [Part.same]))) .nil) (.dd .nil) rfl
 ·have c0 := (nF id) c0
  refine .skip <| .seq <| .seq <| .rs fun k9 => .fp t121 t46 rfl <| .ld t46 rfl (.ptr _ _ _ _ _ rfl) rfl <| .fp t121 t46 rfl <| .ld t46 rfl (.ptr _ _ _ _ _ rfl) rfl <| .c0 (c_eqEnvS a.table b.table) rfl (.dd (.dd .nil)) (.own [15, 0] .nil) rfl ?_
  refine .un rfl <| .z ?_
  refine .cond (t := !(all2 Env.same a.table b.table)) rfl (fun c1 => ?_) (fun c1 => ?_)
  ·have c1 := (nT id) c1
   refine .seq <| .rs fun k10 => .as rfl <| .z <| .ret ?_
   exact fin0 (.inr rfl) (.one (svB (show (false) = (Part.same a b) by (simp_all [Part.same]))) .nil) (.dd .nil) rfl
  ·have c1 := (nF id) c1
   refine .skip <| .seq <| .rs fun k12 => .as rfl <| .z <| .ret ?_
   exact fin0 (.inr rfl) (.one (svB (show (true) = (Part.same a b) by (simp_all [Part.same]))) .nil) (.dd .nil) rfl
theorem c_eqPartS (a : List Part) (b : List Part) : Trip Tryz.prog 35 [(false, 1), (false, 1)] ([.sl false 121 2 (List.map Part.c121 (a))] ++ [.sl false 121 2 (List.map Part.c121 (b))]) [(false, 1)] [.v (.bool (all2 Part.same a b))] [] := by
 refine Trip.of Tryz.func35 (by decide) (c := _) rfl rfl (shB_ok rfl) (Nat.le_of_ble_eq_true rfl) rfl (AftOk.nil _) <| .sl (t := 0) rfl fun hs1l => .sl (t := 1) rfl fun hs2l => .seq <| .rs fun k3 => .as rfl <| .z <| .seq <| .seq ?_
 refine .rs fun k4 => .mv rfl <| .g (fun _ τ => ⟨_, .len (.no rfl) rfl (z := (a.length : Int)) t57 rfl rfl rfl (.d _ _) (map_len _ _) rfl τ⟩) <| .mv rfl <| .g (fun _ τ => ⟨_, .len (.no rfl) rfl (z := (b.length : Int)) t57 rfl rfl rfl (.d _ _) (map_len _ _) rfl τ⟩) <| .bi rfl <| .z ?_
 refine .cond (t := (a.length : Int) != (b.length : Int)) rfl (fun c0 => ?_) (fun c0 => ?_)
 ·have c0 := (by simpa using c0 : ¬ ((a.length : Int) = (b.length : Int)))
  refine .seq <| .rs fun k5 => .as rfl <| .z <| .ret ?_
  exact fin0 (.inr rfl) (.one (svB (show (false) = (all2 Part.same a b) by exact (all2_ne _ c0).symm)) .nil) (.dd .nil) rfl
 ·have c0 := (by simpa using c0 : (a.length : Int) = (b.length : Int))
  refine .skip <| .seq <| .seq <| .rs fun k7 => .as rfl <| .z <| .block ?_
  refine .loop (X := Nat) (fun ζ => .of [(0, .one (.d (.sl false 121 2 (List.map Part.c121 (a))))), (1, .one (.d (.sl false 121 2 (List.map Part.c121 (b))))), (5, .one (.d (.v (.int .i64 ((ζ : Int))))))] []) (fun ζ => ζ ≤ a.length ∧ a.length = b.length ∧ allTo ζ (fun i => Part.same (a.getD i default) (b.getD i default)) = true) (fun ζ => a.length - ζ) ?_ ?_
  ·skip
   exact .here 0 (.of (.cons rfl (.cons rfl (.cons (svI (show (0) = ((0 : Int)) by first | rfl | omega | exact wrap_le (by omega) (by omega) | (rw [wrap_le (by omega) (by omega)]; omega))) .nil))) .nil) (show 0 ≤ a.length ∧ a.length = b.length ∧ allTo 0 (fun i => Part.same (a.getD i default) (b.getD i default)) = true by exact ⟨by omega, by omega, rfl⟩)
  ·rintro j hI
   have hI : j ≤ a.length ∧ a.length = b.length ∧ allTo j (fun i => Part.same (a.getD i default) (b.getD i default)) = true := hI
   refine .seq <| .seq <| .rs fun k8 => .mv rfl <| .mv rfl <| .g (fun _ τ => ⟨_, .len (.no rfl) rfl (z := (a.length : Int)) t57 rfl rfl rfl (.d _ _) (map_len _ _) rfl τ⟩) <| .bi rfl <| .z ?_
   refine .cond (t := decide ((j : Int) < (a.length : Int))) rfl (fun c1 => ?_) (fun c1 => ?_)
   ·have c1 := of_decide_eq_true c1
    refine .skip <| .seq <| .block <| .seq ?_
    refine .regD (X := Unit) (by kernel_rfl) (fun ζ => .of [(0, .one (.d (.sl false 121 2 (List.map Part.c121 (a))))), (1, .one (.d (.sl false 121 2 (List.map Part.c121 (b))))), (5, .one (.d (.v (.int .i64 ((j : Int)))))), (26, .one (.d (.v (.bool (!(Part.same (a.getD j default) (b.getD j default)))))))] []) [⟨[0], some 17, [], []⟩, ⟨[5], some 18, [], []⟩, ⟨[17, 18], some 19, [], []⟩, ⟨[19], some 20, [], []⟩, ⟨[1], some 21, [], []⟩, ⟨[5], some 22, [], []⟩, ⟨[21, 22], some 23, [], []⟩, ⟨[23], some 24, [], []⟩, ⟨[20, 24], some 25, [], []⟩, ⟨[25], some 26, [], []⟩] (by kernel_rfl) (fun k9 => ?_) ?_
    ·skip
     refine .move (.no rfl) rfl rfl rfl rfl <| .move (.no rfl) rfl rfl rfl rfl <| .indexAddr (.no rfl) rfl (j) t57 rfl t121 rfl rfl rfl (.d _ _) rfl rfl rfl (map_get (by omega)) rfl rfl <| .load (.no rfl) rfl t121 rfl rfl (.d _) rfl rfl rfl rfl <| .move (.no rfl) rfl rfl rfl rfl <| .move (.no rfl) rfl rfl rfl rfl <| .indexAddr (.no rfl) rfl (j) t57 rfl t121 rfl rfl rfl (.d _ _) rfl rfl rfl (map_get (by omega)) rfl rfl <| .load (.no rfl) rfl t121 rfl rfl (.d _) rfl rfl rfl rfl <| .call (.no rfl) rfl [] [] (c_eqPart (a.getD j default) (b.getD j default)) rfl rfl rfl rfl rfl (.dd (.dd (.dd (.dd .nil)))) rfl rfl (fun h => absurd rfl h) (.own [25, 0] .nil) (.nil) rfl rfl rfl (by simp) rfl rfl rfl ?_
     refine .un (.no rfl) rfl rfl rfl rfl rfl ?_
     exact .fin () (.of (.r rfl) .nil)
    intro _
    refine .cond (t := !(Part.same (a.getD j default) (b.getD j default))) rfl (fun c2 => ?_) (fun c2 => ?_)
    ·have c2 := (nT id) c2
     refine .seq <| .rs fun k10 => .as rfl <| .z <| .ret ?_
     exact fin0 (.inr rfl) (.one (svB (show (false) = (all2 Part.same a b) by exact (all2_fail _ (j := j) (by omega) (by simpa [] using c2)).symm)) .nil) (.dd .nil) rfl
    ·have c2 := (nF id) c2
     refine .skip <| .rs fun k12 => .mv rfl <| .bi rfl <| .as rfl <| .z ?_
     exact .here (j + 1) (.of (.cons rfl (.cons rfl (.cons (svI (show (IntKind.wrap .i64 ((j : Int) + 1)) = (((j + 1) : Int)) by first | rfl | omega | exact wrap_le (by omega) (by omega) | (rw [wrap_le (by omega) (by omega)]; omega))) .nil))) .nil) ⟨(show (j + 1) ≤ a.length ∧ a.length = b.length ∧ allTo (j + 1) (fun i => Part.same (a.getD i default) (b.getD i default)) = true by exact ⟨by omega, by omega, allTo_step hI.2.2 (by simpa [] using c2)⟩), (show a.length - (j + 1) < a.length - j by omega)⟩
   ·have c1 := of_decide_eq_false c1
    refine .exit <| .seq <| .rs fun k13 => .as rfl <| .z <| .ret ?_
    exact fin0 (.inr rfl) (.one (svB (show (true) = (all2 Part.same a b) by (have hj : j = a.length := (by omega); subst hj; exact (all2_done _ hI.2.1 hI.2.2).symm))) .nil) (.dd .nil) rfl
end Go.Proofs

namespace Go.Proofs
open Go Go.Proofs Go.Ev

def i196 : TI := ⟨.fn, 1, 8, [.nilFunc]⟩
theorem t196 : TyOk Tryz.prog 196 i196 := ⟨⟨_, _, _, Tryz.underlying196⟩, by kernel_rfl⟩
theorem z196 : ZOk Tryz.prog 196 i196 := ⟨t196, rfl⟩
theorem c_l8Size (d : Decl) : Trip Tryz.prog 89 [(true, 3)] (Decl.c34 d) [(false, 1)] [.v (.int .i64 (leavesOf d))] [] := by
 refine Trip.of Tryz.func89 (by decide) (c := _) rfl rfl (shB_ok rfl) (Nat.le_of_ble_eq_true rfl) rfl (AftOk.nil _) <| .sla (t := 0) 0 rfl rfl fun hs1l => .sla (t := 0) 1 rfl rfl fun hs2l => .sla (t := 0) 2 rfl rfl fun hs3l => .seq <| .rs fun k4 => .g (fun _ τ => ⟨_, .box (.no rfl) rfl rfl rfl rfl rfl τ⟩) <| .as rfl <| .z ?_
 refine .seq <| .rs fun k5 => .fp t34 t22 rfl <| .ld t22 rfl (.ptr _ _ _ _ _ rfl) rfl <| .g (fun _ τ => ⟨_, .len (.no rfl) rfl (z := (d.flags.length : Int)) t22 rfl rfl rfl (.d _ _) (map_len _ _) rfl τ⟩) <| .g (fun _ τ => ⟨_, .conv (.no rfl) rfl t3 t174 rfl rfl rfl rfl (wrap_u64 (by omega) (by omega)) rfl τ⟩) <| .g (fun _ τ => ⟨_, .shl (.no rfl) rfl rfl rfl rfl (by omega) rfl rfl τ⟩) <| .as rfl <| .z ?_
 refine .ret ?_
 exact fin0 (.inr rfl) (.one (svI (show (IntKind.wrap .i64 (1 * 2 ^ (min ((d.flags.length : Int)).toNat (IntKind.bits .i64)))) = (leavesOf d) by rfl)) .nil) (.dd .nil) rfl
theorem c_leaves (d : Decl) : Trip Tryz.prog 94 [(true, 3)] (Decl.c34 d) [(false, 1)] [.v (.int .i64 (leavesOf d))] [] := by
 refine Trip.of Tryz.func94 (by decide) (c := _) rfl rfl (shB_ok rfl) (Nat.le_of_ble_eq_true rfl) rfl (AftOk.nil _) <| .sla (t := 0) 0 rfl rfl fun hs1l => .sla (t := 0) 1 rfl rfl fun hs2l => .sla (t := 0) 2 rfl rfl fun hs3l => .seq <| .rs fun k4 => .g (fun _ τ => ⟨_, .box (.no rfl) rfl rfl rfl rfl rfl τ⟩) <| .as rfl <| .z ?_
 refine .seq <| .rs fun k5 => .fp t34 t22 rfl <| .ld t22 rfl (.ptr _ _ _ _ _ rfl) rfl <| .g (fun _ τ => ⟨_, .len (.no rfl) rfl (z := (d.flags.length : Int)) t22 rfl rfl rfl (.d _ _) (map_len _ _) rfl τ⟩) <| .g (fun _ τ => ⟨_, .shl (.no rfl) rfl rfl rfl rfl (by omega) rfl rfl τ⟩) <| .as rfl <| .z <| .ret ?_
 exact fin0 (.inr rfl) (.one (svI (show (IntKind.wrap .i64 (1 * 2 ^ (min ((d.flags.length : Int)).toNat (IntKind.bits .i64)))) = (leavesOf d) by rfl)) .nil) (.dd .nil) rfl
theorem c_sizeE (l : List Env) : Trip Tryz.prog 159 [(false, 1)] ([.sl false 106 3 (List.map Env.c106 (l))]) [(false, 1)] [.v (.int .i64 ((l.length : Int)))] [] := by
 refine Trip.of Tryz.func159 (by decide) (c := _) rfl rfl (shB_ok rfl) (Nat.le_of_ble_eq_true rfl) rfl (AftOk.nil _) <| .sl (t := 0) rfl fun hs1l => .seq <| .rs fun k2 => .as rfl <| .z <| .seq <| .rs fun k3 => .mv rfl ?_
 refine .g (fun _ τ => ⟨_, .len (.no rfl) rfl (z := (l.length : Int)) t46 rfl rfl rfl (.d _ _) (map_len _ _) rfl τ⟩) <| .as rfl <| .z <| .ret ?_
 exact fin0 (.inr rfl) (.one rfl .nil) (.dd .nil) rfl
theorem c_IndexFuncE (l : List Env) (F_p : FuncId) (first_p : List (Bool × List D)) (caps_p : List D) (p : Env → Bool) (h_p : ∀ (x0 : Env), FnTrip Tryz.prog F_p first_p caps_p [(true, 3)] (Env.c106 x0) [(false, 1)] [.v (.bool (p x0))]) : Trip Tryz.prog 225 [(false, 1), (false, 1)] ([.sl false 106 3 (List.map Env.c106 (l))] ++ [.fn F_p first_p caps_p]) [(false, 1)] [.v (.int .i64 (idx p l))] [] := by
 refine Trip.of Tryz.func225 (by decide) (c := _) rfl rfl (shB_ok rfl) (Nat.le_of_ble_eq_true rfl) rfl (AftOk.nil _) <| .sl (t := 0) rfl fun hs1l => .seq <| .rs fun k2 => .as rfl <| .z <| .seq <| .seq <| .rs fun k3 => ?_
 refine .mv rfl <| .g (fun _ τ => ⟨_, .len (.no rfl) rfl (z := (l.length : Int)) t46 rfl rfl rfl (.d _ _) (map_len _ _) rfl τ⟩) <| .mv rfl <| .z <| .block ?_
 refine .loop (X := Nat) (fun ζ => .of [(0, .one (.d (.sl false 106 3 (List.map Env.c106 (l))))), (1, .one (.d (.fn F_p first_p caps_p))), (7, .one (.d (.v (.int .i64 ((l.length : Int)))))), (8, .one (.d (.v (.int .i64 ((ζ : Int))))))] []) (fun ζ => ζ ≤ l.length ∧ allTo ζ (fun i => !p (l.getD i default)) = true) (fun ζ => l.length - ζ) ?_ ?_
 ·skip
  exact .here 0 (.of (.cons rfl (.cons rfl (.cons rfl (.cons (svI (show (0) = ((0 : Int)) by first | rfl | omega | exact wrap_le (by omega) (by omega) | (rw [wrap_le (by omega) (by omega)]; omega))) .nil)))) .nil) (show 0 ≤ l.length ∧ allTo 0 (fun i => !p (l.getD i default)) = true by exact ⟨by omega, rfl⟩)
 ·rintro j hI
  have hI : j ≤ l.length ∧ allTo j (fun i => !p (l.getD i default)) = true := hI
  refine .seq <| .rs fun k4 => .bi rfl <| .z <| .seq ?_
  refine .cond (t := decide ((j : Int) < (l.length : Int))) rfl (fun c0 => ?_) (fun c0 => ?_)
  ·have c0 := of_decide_eq_true c0
   refine .skip <| .seq <| .block <| .seq <| .rs fun k5 => .mv rfl <| .as rfl <| .z <| .seq ?_
   refine .rs fun k6 => .mv rfl <| .mv rfl <| .mv rfl <| .g (fun _ τ => ⟨_, .indexAddr (.no rfl) rfl (j) t46 rfl t106 rfl rfl rfl (.d _ _) rfl rfl rfl (map_get (by omega)) rfl rfl τ⟩) <| .lda t106 rfl (.d _) rfl <| .g (fun _ τ => ⟨_, .callF (.no rfl) rfl (ds := [.v (.bool ((l.getD j default).live)), .sl false 182 2 (List.map Iv.c ((l.getD j default).ints)), .sl false 182 2 (List.map Iv.c ((l.getD j default).arrs))]) (h_p (l.getD j default)) rfl rfl rfl rfl (.own [16, 0] .nil) rfl rfl rfl rfl rfl rfl τ⟩) <| .z ?_
   refine .cond (t := p (l.getD j default)) rfl (fun c1 => ?_) (fun c1 => ?_)
   ·have c1 := c1
    refine .seq <| .rs fun k7 => .mv rfl <| .as rfl <| .z <| .ret ?_
    exact fin0 (.inr rfl) (.one (svI (show ((j : Int)) = (idx p l) by exact (idx_found (j := j) (by omega) hI.2 (by simpa using c1)).symm)) .nil) (.dd .nil) rfl
   ·have c1 := c1
    refine .skip <| .rs fun k9 => .bi rfl <| .mv rfl <| .z ?_
    exact .here (j + 1) (.of (.cons rfl (.cons rfl (.cons rfl (.cons (svI (show (IntKind.wrap .i64 ((j : Int) + 1)) = (((j + 1) : Int)) by first | rfl | omega | exact wrap_le (by omega) (by omega) | (rw [wrap_le (by omega) (by omega)]; omega))) .nil)))) .nil) ⟨(show (j + 1) ≤ l.length ∧ allTo (j + 1) (fun i => !p (l.getD i default)) = true by exact ⟨by omega, allTo_step hI.2 (by simpa using c1)⟩), (show l.length - (j + 1) < l.length - j by omega)⟩
  ·have c0 := of_decide_eq_false c0
   refine .exit <| .seq <| .rs fun k10 => .as rfl <| .z <| .ret ?_
   exact fin0 (.inr rfl) (.one (svI (show (-1) = (idx p l) by exact (idx_none (by omega) hI.2).symm)) .nil) (.dd .nil) rfl
theorem c_ContainsFuncE (l : List Env) (F_p : FuncId) (first_p : List (Bool × List D)) (caps_p : List D) (p : Env → Bool) (h_p : ∀ (x0 : Env), FnTrip Tryz.prog F_p first_p caps_p [(true, 3)] (Env.c106 x0) [(false, 1)] [.v (.bool (p x0))]) : Trip Tryz.prog 195 [(false, 1), (false, 1)] ([.sl false 106 3 (List.map Env.c106 (l))] ++ [.fn F_p first_p caps_p]) [(false, 1)] [.v (.bool (l.any p))] [] := by
 refine Trip.of Tryz.func195 (by decide) (c := _) rfl rfl (shB_ok rfl) (Nat.le_of_ble_eq_true rfl) rfl (AftOk.nil _) <| .sl (t := 0) rfl fun hs1l => .seq <| .rs fun k2 => .as rfl <| .z <| .seq <| .rs fun k3 => .mv rfl ?_
 refine .mv rfl <| .c0 (c_IndexFuncE l F_p first_p caps_p p h_p) rfl (.dd (.dd .nil)) (.own [7, 0] .nil) rfl <| .bi rfl <| .as rfl <| .z <| .ret ?_
 exact fin0 (.inr rfl) (.one (svB (show (decide ((idx p l) ≥ 0)) = (l.any p) by exact idx_any _ _)) .nil) (.dd .nil) rfl
theorem c_areAll1E (x : Env) (F_p : FuncId) (first_p : List (Bool × List D)) (caps_p : List D) (p : Env → Bool) (h_p : ∀ (x0 : Env), FnTrip Tryz.prog F_p first_p caps_p [(true, 3)] (Env.c106 x0) [(false, 1)] [.v (.bool (p x0))]) : Trip Tryz.prog 196 [(true, 3), (false, 1)] (Env.c106 x ++ [.pt false [.fn F_p first_p caps_p]]) [(false, 1)] [.v (.bool (!p x))] [] := by
 refine Trip.of Tryz.func196 (by decide) (c := _) rfl rfl (shB_ok rfl) (Nat.le_of_ble_eq_true rfl) rfl (AftOk.nil _) <| .sla (t := 0) 1 rfl rfl fun hs1l => .sla (t := 0) 2 rfl rfl fun hs2l => .seq <| .rs fun k3 => .g (fun _ τ => ⟨_, .box (.no rfl) rfl rfl rfl rfl rfl τ⟩) <| .as rfl <| .z <| .seq ?_
 refine .rs fun k4 => .ld t196 rfl (.d _) rfl <| .lda t106 rfl (.ptr _ _ _ _ _ rfl) rfl <| .g (fun _ τ => ⟨_, .callF (.no rfl) rfl (ds := [.v (.bool (x.live)), .sl false 182 2 (List.map Iv.c (x.ints)), .sl false 182 2 (List.map Iv.c (x.arrs))]) (h_p x) rfl rfl rfl rfl (.own [6, 0] .nil) rfl rfl rfl rfl rfl rfl τ⟩) <| .un rfl <| .as rfl <| .z <| .ret ?_
 exact fin0 (.inr rfl) (.one (svB (show (!(p x)) = (!p x) by rfl)) .nil) (.dd .nil) rfl
theorem c_areAllE (l : List Env) (F_p : FuncId) (first_p : List (Bool × List D)) (caps_p : List D) (p : Env → Bool) (h_p : ∀ (x0 : Env), FnTrip Tryz.prog F_p first_p caps_p [(true, 3)] (Env.c106 x0) [(false, 1)] [.v (.bool (p x0))]) : Trip Tryz.prog 160 [(false, 1), (false, 1)] ([.sl false 106 3 (List.map Env.c106 (l))] ++ [.fn F_p first_p caps_p]) [(false, 1)] [.v (.bool (l.all p))] [] := by
 refine Trip.of Tryz.func160 (by decide) (c := _) rfl rfl (shB_ok rfl) (Nat.le_of_ble_eq_true rfl) rfl (AftOk.nil _) <| .sl (t := 0) rfl fun hs1l => .seq <| .rs fun k2 => .g (fun _ τ => ⟨_, .box (.no rfl) rfl rfl rfl rfl rfl τ⟩) <| .as rfl <| .z <| .seq <| .rs fun k3 => ?_
 refine .mv rfl <| .g (fun _ τ => ⟨_, .makeFunc (.no rfl) rfl rfl rfl rfl rfl τ⟩) <| .g (fun _ τ => ⟨_, .call (.no rfl) rfl [[3]] [([3], (k2, k2, .box [.d (.fn F_p first_p caps_p)]))] (c_ContainsFuncE l 196 [] [.pt false [.fn F_p first_p caps_p]] (fun x0 => !p x0) (fun x0 => c_areAll1E x0 F_p first_p caps_p p h_p)) rfl rfl rfl rfl rfl (.dd (.cons (Reads.clo0 (.cons (Reads.ptr0 (.head _) (.head _) (.cons (Reads.d _) .nil)) .nil)).gives .nil)) rfl rfl (fun _ => (ownCons (Owned.v _) ownNil)) (.own [7, 0] .nil) (.nil) rfl rfl rfl (AllH.get (.r rfl)) rfl rfl rfl τ⟩) <| .un rfl <| .as rfl <| .z <| .ret ?_
 exact fin0 (.inr rfl) (.one (svB (show (!(l.any (fun x0 => !p x0))) = (l.all p) by exact not_any _ _)) .nil) (.dd .nil) rfl
end Go.Proofs

namespace Go.Proofs
open Go Go.Proofs Go.Ev

theorem c_sTableOk (d : Decl) (t : List Env) (hs : ∀ x ∈ Decl.names d, x.size ≤ 9223372036854775807) (hd : d.vars.length ≤ 1048576 ∧ d.flags.length ≤ 1048576 ∧ d.arrays.length ≤ 1048576) (hx : ∀ x ∈ t, x.ints.length ≤ 1048576 ∧ x.arrs.length ≤ 1048576) : Trip Tryz.prog 68 [(true, 3), (false, 1)] (Decl.c34 d ++ [.sl false 106 3 (List.map Env.c106 (t))]) [(false, 1)] [.v (.bool (Table.ok d t))] [] := by
 refine Trip.of Tryz.func68 (by decide) (c := _) rfl rfl (shB_ok rfl) (Nat.le_of_ble_eq_true rfl) rfl (AftOk.nil _) <| .sla (t := 0) 0 rfl rfl fun hs1l => .sla (t := 0) 1 rfl rfl fun hs2l => .sla (t := 0) 2 rfl rfl fun hs3l => .sl (t := 1) rfl fun hs4l => .seq <| .rs fun k5 => .g (fun _ τ => ⟨_, .box (.no rfl) rfl rfl rfl rfl rfl τ⟩) <| .as rfl ?_
 refine .z <| .seq <| .seq ?_
 refine .reg (X := Unit) (fun ζ => .of [(1, .one (.d (.sl false 106 3 (List.map Env.c106 (t))))), (2, .one (.ptr [2] (k5) 0)), (15, .one (.d (.v (.bool ((!(Decl.ok d) || (t.length : Int) != (leavesOf d)))))))] [([2], (k5, k5, .box [.d (.sl false 9 1 (List.map strc (d.vars))), .d (.sl false 9 1 (List.map strc (d.flags))), .d (.sl false 168 2 (List.map Arr.c (d.arrays)))]))]) [⟨[2], some 6, [[2]], []⟩, ⟨[6], some 7, [], []⟩, ⟨[7], some 8, [], []⟩, ⟨[8], some 9, [], []⟩, ⟨[9, 1], some 10, [], []⟩, ⟨[9, 10], some 11, [], []⟩, ⟨[9, 2], some 12, [[2]], []⟩, ⟨[9, 12], some 13, [], []⟩, ⟨[9, 11, 13], some 14, [], []⟩, ⟨[9, 14], some 15, [], []⟩] (fun k6 => ?_) ?_
 ·skip
  refine .load (.no rfl) rfl t34 rfl rfl (.ptr _ _ _ _ _ rfl) rfl rfl rfl rfl <| .call (.no rfl) rfl [] [] (c_sDeclOk d (by first | assumption | exact hx _ (getD_mem (by omega))) (by first | assumption | exact hx _ (getD_mem (by omega)))) rfl rfl rfl rfl rfl (.dd (.dd (.dd .nil))) rfl rfl (fun h => absurd rfl h) (.own [7, 0] .nil) (.nil) rfl rfl rfl (by simp) rfl rfl rfl <| .un (.no rfl) rfl rfl rfl rfl rfl <| .moveB (.no rfl) rfl rfl rfl rfl fun b7 g1_3 => ?_
  cases b7
  ·skip
   refine .move (.on rfl rfl rfl rfl rfl) rfl rfl rfl rfl <| .len (.on rfl rfl rfl rfl rfl) rfl (z := (t.length : Int)) t46 rfl rfl rfl (.d _ _) (map_len _ _) rfl <| .load (.on rfl rfl rfl rfl rfl) rfl t34 rfl rfl (.ptr _ _ _ _ _ rfl) rfl rfl rfl rfl <| .call (.on rfl rfl rfl rfl rfl) rfl [] [] (c_l8Size d) rfl rfl rfl rfl rfl (.dd (.dd (.dd .nil))) rfl rfl (fun h => absurd rfl h) (.own [13, 0] .nil) (.nil) rfl rfl rfl (by simp) rfl rfl rfl <| .bin (.on rfl rfl rfl rfl rfl) rfl rfl rfl rfl rfl rfl <| .pick (.no rfl) rfl rfl rfl rfl rfl ?_
   exact .fin () (.of (.cons rfl (.cons rfl (.cons (svB (show ((t.length : Int) != (leavesOf d)) = ((!(Decl.ok d) || (t.length : Int) != (leavesOf d))) by first | (simp only [g1_3, Bool.true_or, Bool.false_or, Bool.true_and, Bool.false_and, Bool.not_true, Bool.not_false]; done) | simp [g1_3])) .nil))) (.r rfl))
  ·skip
   refine .off rfl rfl rfl rfl rfl rfl rfl <| .off rfl rfl rfl rfl rfl rfl rfl <| .off rfl rfl rfl rfl rfl rfl rfl <| .off rfl rfl rfl rfl rfl rfl rfl <| .off rfl rfl rfl rfl rfl rfl rfl <| .pick (.no rfl) rfl rfl rfl rfl rfl ?_
   exact .fin () (.of (.cons rfl (.cons rfl (.cons (svB (show (true) = ((!(Decl.ok d) || (t.length : Int) != (leavesOf d))) by first | (simp only [g1_3, Bool.true_or, Bool.false_or, Bool.true_and, Bool.false_and, Bool.not_true, Bool.not_false]; done) | simp [g1_3])) .nil))) (.r rfl))
 intro _
 refine .cond (t := (!(Decl.ok d) || (t.length : Int) != (leavesOf d))) rfl (fun c0 => ?_) (fun c0 => ?_)
 ·have c0 := (oT (nT id) bT) c0
  refine .seq <| .rs fun k8 => .as rfl <| .z <| .ret ?_
  exact fin0 (.inr rfl) (.one (svB (show (false) = (Table.ok d t) by (unfold Table.ok Table.isIn; rcases c0 with h | h <;> simp [h]))) .nil) (.dd .nil) rfl
 ·have c0 := (oF (nF id) bF) c0
  refine .skip <| .seq <| .seq <| .rs fun k10 => .as rfl <| .z <| .block ?_
  refine .loop (X := Nat) (fun ζ => .of [(1, .one (.d (.sl false 106 3 (List.map Env.c106 (t))))), (2, .one (.ptr [2] (k5) 0)), (5, .one (.d (.v (.int .i64 ((ζ : Int))))))] [([2], (k5, k5, .box [.d (.sl false 9 1 (List.map strc (d.vars))), .d (.sl false 9 1 (List.map strc (d.flags))), .d (.sl false 168 2 (List.map Arr.c (d.arrays)))]))]) (fun ζ => ζ ≤ t.length ∧ allTo ζ (fun i => Env.okIn d (t.getD i default)) = true) (fun ζ => t.length - ζ) ?_ ?_
  ·skip
   exact .here 0 (.of (.cons rfl (.cons rfl (.cons (svI (show (0) = ((0 : Int)) by first | rfl | omega | exact wrap_le (by omega) (by omega) | (rw [wrap_le (by omega) (by omega)]; omega))) .nil))) (.r rfl)) (show 0 ≤ t.length ∧ allTo 0 (fun i => Env.okIn d (t.getD i default)) = true by exact ⟨by omega, rfl⟩)
  ·rintro j hI
   have hI : j ≤ t.length ∧ allTo j (fun i => Env.okIn d (t.getD i default)) = true := hI
   refine .seq <| .seq <| .rs fun k11 => .mv rfl <| .mv rfl <| .g (fun _ τ => ⟨_, .len (.no rfl) rfl (z := (t.length : Int)) t46 rfl rfl rfl (.d _ _) (map_len _ _) rfl τ⟩) <| .bi rfl <| .z ?_
   refine .cond (t := decide ((j : Int) < (t.length : Int))) rfl (fun c1 => ?_) (fun c1 => ?_)
   ·have c1 := of_decide_eq_true c1
    refine .skip <| .seq <| .block <| .seq ?_
    refine .regD (X := Unit) (by kernel_rfl) (fun ζ => .of [(1, .one (.d (.sl false 106 3 (List.map Env.c106 (t))))), (2, .one (.ptr [2] (k5) 0)), (5, .one (.d (.v (.int .i64 ((j : Int)))))), (28, .one (.d (.v (.bool (!(Decl.ok d && Env.okIn d (t.getD j default)))))))] [([2], (k5, k5, .box [.d (.sl false 9 1 (List.map strc (d.vars))), .d (.sl false 9 1 (List.map strc (d.flags))), .d (.sl false 168 2 (List.map Arr.c (d.arrays)))]))]) [⟨[2], some 22, [[2]], []⟩, ⟨[1], some 23, [], []⟩, ⟨[5], some 24, [], []⟩, ⟨[23, 24], some 25, [], []⟩, ⟨[25], some 26, [], []⟩, ⟨[22, 26], some 27, [], []⟩, ⟨[27], some 28, [], []⟩] (by kernel_rfl) (fun k12 => ?_) ?_
    ·skip
     refine .load (.no rfl) rfl t34 rfl rfl (.ptr _ _ _ _ _ rfl) rfl rfl rfl rfl <| .move (.no rfl) rfl rfl rfl rfl <| .move (.no rfl) rfl rfl rfl rfl <| .indexAddr (.no rfl) rfl (j) t46 rfl t106 rfl rfl rfl (.d _ _) rfl rfl rfl (map_get (by omega)) rfl rfl <| .load (.no rfl) rfl t106 rfl rfl (.d _) rfl rfl rfl rfl <| .call (.no rfl) rfl [] [] (c_sEnvOk d (t.getD j default) (by first | assumption | exact hx _ (getD_mem (by omega))) (by first | assumption | exact hx _ (getD_mem (by omega))) (by first | assumption | exact hx _ (getD_mem (by omega)))) rfl rfl rfl rfl rfl (.dd (.dd (.dd (.dd (.dd (.dd .nil)))))) rfl rfl (fun h => absurd rfl h) (.own [27, 0] .nil) (.nil) rfl rfl rfl (by simp) rfl rfl rfl <| .un (.no rfl) rfl rfl rfl rfl rfl ?_
     exact .fin () (.of (.r rfl) (.r rfl))
    intro _
    refine .cond (t := !(Decl.ok d && Env.okIn d (t.getD j default))) rfl (fun c2 => ?_) (fun c2 => ?_)
    ·have c2 := (nT (aF id id)) c2
     refine .seq <| .rs fun k13 => .as rfl <| .z <| .ret ?_
     exact fin0 (.inr rfl) (.one (svB (show (false) = (Table.ok d t) by (unfold Table.ok Table.isIn; rw [all_none (p := Env.okIn d) (j := j) (by omega) (by rcases c2 with h | h <;> first | exact h | (rw [c0.1] at h; exact absurd h (by decide))), Bool.and_false, Bool.and_false]))) .nil) (.dd .nil) rfl
    ·have c2 := (nF (aT id id)) c2
     refine .skip <| .rs fun k15 => .mv rfl <| .bi rfl <| .as rfl <| .z ?_
     exact .here (j + 1) (.of (.cons rfl (.cons rfl (.cons (svI (show (IntKind.wrap .i64 ((j : Int) + 1)) = (((j + 1) : Int)) by first | rfl | omega | exact wrap_le (by omega) (by omega) | (rw [wrap_le (by omega) (by omega)]; omega))) .nil))) (.r rfl)) ⟨(show (j + 1) ≤ t.length ∧ allTo (j + 1) (fun i => Env.okIn d (t.getD i default)) = true by exact ⟨by omega, allTo_step hI.2 c2.2⟩), (show t.length - (j + 1) < t.length - j by omega)⟩
   ·have c1 := of_decide_eq_false c1
    refine .exit <| .seq <| .rs fun k16 => .as rfl <| .z <| .ret ?_
    exact fin0 (.inr rfl) (.one (svB (show (true) = (Table.ok d t) by (unfold Table.ok Table.isIn; rw [c0.1, all_done (p := Env.okIn d) (j := j) (by omega) hI.2]; simp [c0.2]))) .nil) (.dd .nil) rfl
end Go.Proofs

namespace Go.Proofs
open Go Go.Proofs Go.Ev

theorem c_isTable (d : Decl) (t : List Env) : Trip Tryz.prog 98 [(true, 3), (false, 1)] (Decl.c34 d ++ [.sl false 106 3 (List.map Env.c106 (t))]) [(false, 1)] [.v (.bool (Table.isIn d t))] [] := by
 refine Trip.of Tryz.func98 (by decide) (c := _) rfl rfl (shB_ok rfl) (Nat.le_of_ble_eq_true rfl) rfl (AftOk.nil _) <| .sla (t := 0) 0 rfl rfl fun hs1l => .sla (t := 0) 1 rfl rfl fun hs2l => .sla (t := 0) 2 rfl rfl fun hs3l => .sl (t := 1) rfl fun hs4l => .seq <| .rs fun k5 => .g (fun _ τ => ⟨_, .box (.no rfl) rfl rfl rfl rfl rfl τ⟩) <| .as rfl ?_
 refine .z <| .seq ?_
 refine .regD (X := Unit) (by kernel_rfl) (fun ζ => .of [(4, .one (.d (.v (.bool (((t.length : Int) == (leavesOf d) && t.all (fun x0 => Env.okIn d x0)))))))] []) [⟨[1], some 5, [], []⟩, ⟨[5], some 6, [], []⟩, ⟨[2], some 7, [[2]], []⟩, ⟨[7], some 8, [], []⟩, ⟨[6, 8], some 9, [], []⟩, ⟨[9], some 10, [], []⟩, ⟨[10, 1], some 11, [], []⟩, ⟨[10, 2], some 12, [[2]], []⟩, ⟨[10, 12], some 13, [], []⟩, ⟨[10, 11, 13], some 14, [], []⟩, ⟨[10, 14], some 15, [], []⟩, ⟨[15], some 4, [], []⟩] (by kernel_rfl) (fun k6 => ?_) ?_
 ·skip
  refine .move (.no rfl) rfl rfl rfl rfl <| .call (.no rfl) rfl [] [] (c_sizeE t) rfl rfl rfl rfl rfl (.dd .nil) rfl rfl (fun h => absurd rfl h) (.own [6, 0] .nil) (.nil) rfl rfl rfl (by simp) rfl rfl rfl <| .load (.no rfl) rfl t34 rfl rfl (.ptr _ _ _ _ _ rfl) rfl rfl rfl rfl <| .call (.no rfl) rfl [] [] (c_leaves d) rfl rfl rfl rfl rfl (.dd (.dd (.dd .nil))) rfl rfl (fun h => absurd rfl h) (.own [8, 0] .nil) (.nil) rfl rfl rfl (by simp) rfl rfl rfl <| .bin (.no rfl) rfl rfl rfl rfl rfl rfl <| .moveB (.no rfl) rfl rfl rfl rfl fun b7 g1_5 => ?_
  cases b7
  ·skip
   refine .off rfl rfl rfl rfl rfl rfl rfl <| .off rfl rfl rfl rfl rfl rfl rfl <| .off rfl rfl rfl rfl rfl rfl rfl <| .off rfl rfl rfl rfl rfl rfl rfl <| .pick (.no rfl) rfl rfl rfl rfl rfl <| .assign (.no rfl) rfl rfl rfl rfl ?_
   exact .fin () (.of (.cons (svB (show (false) = (((t.length : Int) == (leavesOf d) && t.all (fun x0 => Env.okIn d x0))) by first | (simp only [g1_5, Bool.true_or, Bool.false_or, Bool.true_and, Bool.false_and, Bool.not_true, Bool.not_false]; done) | simp [g1_5])) .nil) .nil)
  ·skip
   refine .move (.on rfl rfl rfl rfl rfl) rfl rfl rfl rfl <| .load (.on rfl rfl rfl rfl rfl) rfl t34 rfl rfl (.ptr _ _ _ _ _ rfl) rfl rfl rfl rfl <| .makeFunc (.on rfl rfl rfl rfl rfl) rfl rfl rfl rfl rfl <| .call (.on rfl rfl rfl rfl rfl) rfl [] [] (c_areAllE t 161 [(true, [.sl false 9 1 (List.map strc (d.vars)), .sl false 9 1 (List.map strc (d.flags)), .sl false 168 2 (List.map Arr.c (d.arrays))])] [] (fun x0 => Env.okIn d x0) (fun x0 => c_isEnv d x0)) rfl rfl rfl rfl rfl (.dd (.cons (Reads.clo1 (.cons (Reads.d _) (.cons (Reads.d _) (.cons (Reads.d _) .nil))) (.nil)).gives .nil)) rfl rfl (fun h => absurd rfl h) (.own [14, 0] .nil) (.nil) rfl rfl rfl (by simp) rfl rfl rfl <| .pick (.no rfl) rfl rfl rfl rfl rfl <| .assign (.no rfl) rfl rfl rfl rfl ?_
   exact .fin () (.of (.cons (svB (show (t.all (fun x0 => Env.okIn d x0)) = (((t.length : Int) == (leavesOf d) && t.all (fun x0 => Env.okIn d x0))) by first | (simp only [g1_5, Bool.true_or, Bool.false_or, Bool.true_and, Bool.false_and, Bool.not_true, Bool.not_false]; done) | simp [g1_5])) .nil) .nil)
 intro _
 refine .ret ?_
 exact fin0 (.inr rfl) (.one (svB (show (((t.length : Int) == (leavesOf d) && t.all (fun x0 => Env.okIn d x0))) = (Table.isIn d t) by rfl)) .nil) (.dd .nil) rfl
theorem c_TableOk (d : Decl) (t : List Env) (hs : ∀ x ∈ Decl.names d, x.size ≤ 9223372036854775807) (hb : d.vars.length ≤ 1048576 ∧ d.flags.length ≤ 1048576 ∧ d.arrays.length ≤ 1048576) : Trip Tryz.prog 71 [(true, 3), (false, 1)] (Decl.c34 d ++ [.sl false 106 3 (List.map Env.c106 (t))]) [(false, 1)] [.v (.bool (Table.ok d t))] [] := by
 refine Trip.of Tryz.func71 (by decide) (c := _) rfl rfl (shB_ok rfl) (Nat.le_of_ble_eq_true rfl) rfl (AftOk.nil _) <| .sla (t := 0) 0 rfl rfl fun hs1l => .sla (t := 0) 1 rfl rfl fun hs2l => .sla (t := 0) 2 rfl rfl fun hs3l => .sl (t := 1) rfl fun hs4l => .seq <| .rs fun k5 => .g (fun _ τ => ⟨_, .box (.no rfl) rfl rfl rfl rfl rfl τ⟩) <| .as rfl ?_
 refine .z <| .seq ?_
 refine .reg (X := Unit) (fun ζ => .of [(4, .one (.d (.v (.bool ((Decl.ok d && Table.isIn d t))))))] []) [⟨[2], some 5, [[2]], []⟩, ⟨[5], some 6, [], []⟩, ⟨[6], some 7, [], []⟩, ⟨[7, 2], some 8, [[2]], []⟩, ⟨[7, 1], some 9, [], []⟩, ⟨[7, 8, 9], some 10, [], []⟩, ⟨[7, 10], some 11, [], []⟩, ⟨[11], some 4, [], []⟩] (fun k6 => ?_) ?_
 ·skip
  refine .load (.no rfl) rfl t34 rfl rfl (.ptr _ _ _ _ _ rfl) rfl rfl rfl rfl <| .call (.no rfl) rfl [] [] (c_isRight d (by assumption) (by assumption)) rfl rfl rfl rfl rfl (.dd (.dd (.dd .nil))) rfl rfl (fun h => absurd rfl h) (.own [6, 0] .nil) (.nil) rfl rfl rfl (by simp) rfl rfl rfl <| .moveB (.no rfl) rfl rfl rfl rfl fun b7 g1_2 => ?_
  cases b7
  ·skip
   refine .off rfl rfl rfl rfl rfl rfl rfl <| .off rfl rfl rfl rfl rfl rfl rfl <| .off rfl rfl rfl rfl rfl rfl rfl <| .pick (.no rfl) rfl rfl rfl rfl rfl <| .assign (.no rfl) rfl rfl rfl rfl ?_
   exact .fin () (.of (.cons (svB (show (false) = ((Decl.ok d && Table.isIn d t)) by first | (simp only [g1_2, Bool.true_or, Bool.false_or, Bool.true_and, Bool.false_and, Bool.not_true, Bool.not_false]; done) | simp [g1_2])) .nil) .nil)
  ·skip
   refine .load (.on rfl rfl rfl rfl rfl) rfl t34 rfl rfl (.ptr _ _ _ _ _ rfl) rfl rfl rfl rfl <| .move (.on rfl rfl rfl rfl rfl) rfl rfl rfl rfl <| .call (.on rfl rfl rfl rfl rfl) rfl [] [] (c_isTable d t) rfl rfl rfl rfl rfl (.dd (.dd (.dd (.dd .nil)))) rfl rfl (fun h => absurd rfl h) (.own [10, 0] .nil) (.nil) rfl rfl rfl (by simp) rfl rfl rfl <| .pick (.no rfl) rfl rfl rfl rfl rfl <| .assign (.no rfl) rfl rfl rfl rfl ?_
   exact .fin () (.of (.cons (svB (show (Table.isIn d t) = ((Decl.ok d && Table.isIn d t)) by first | (simp only [g1_2, Bool.true_or, Bool.false_or, Bool.true_and, Bool.false_and, Bool.not_true, Bool.not_false]; done) | simp [g1_2])) .nil) .nil)
 intro _
 refine .ret ?_
 exact fin0 (.inr rfl) (.one (svB (show ((Decl.ok d && Table.isIn d t)) = (Table.ok d t) by rfl)) .nil) (.dd .nil) rfl
end Go.Proofs

namespace Go.Proofs
open Go Go.Proofs Go.Ev

theorem c_TableHas (d : Decl) (t : List Env) (s : Store) (hs : ∀ x ∈ Decl.names d, x.size ≤ 9223372036854775807) (hd : d.vars.length ≤ 1048576 ∧ d.flags.length ≤ 1048576 ∧ d.arrays.length ≤ 1048576) (hx : Small 1048576 t) (hst : Store.small s) : Trip Tryz.prog 115 [(true, 3), (false, 1), (true, 3)] (Decl.c34 d ++ [.sl false 106 3 (List.map Env.c106 (t))] ++ Store.c74 s) [(false, 1)] [.v (.bool (Table.hasIn d t s))] [] := by
 refine Trip.of Tryz.func115 (by decide) (c := _) rfl rfl (shB_ok rfl) (Nat.le_of_ble_eq_true rfl) rfl (AftOk.nil _) <| .sla (t := 0) 0 rfl rfl fun hs1l => .sla (t := 0) 1 rfl rfl fun hs2l => .sla (t := 0) 2 rfl rfl fun hs3l => .sl (t := 1) rfl fun hs4l => .sla (t := 2) 0 rfl rfl fun hs5l => .sla (t := 2) 1 rfl rfl fun hs6l => .sla (t := 2) 2 rfl rfl fun hs7l => .seq ?_
 refine .rs fun k8 => .g (fun _ τ => ⟨_, .box (.no rfl) rfl rfl rfl rfl rfl τ⟩) <| .g (fun _ τ => ⟨_, .box (.no rfl) rfl rfl rfl rfl rfl τ⟩) <| .as rfl <| .z <| .seq ?_
 refine .regD (X := Unit) (by kernel_rfl) (fun ζ => .of [(6, .one (.d (.v (.bool (((Table.ok d t && Store.okIn d s) && Env.has (t.getD ((leafN s.flags).toNat) default) s))))))] []) [⟨[3], some 7, [[3]], []⟩, ⟨[1], some 8, [], []⟩, ⟨[7, 8], some 9, [], []⟩, ⟨[9], some 10, [], []⟩, ⟨[10, 3], some 11, [[3]], []⟩, ⟨[10, 5], some 12, [[5]], []⟩, ⟨[10, 11, 12], some 13, [], []⟩, ⟨[10, 13], some 14, [], []⟩, ⟨[14], some 15, [], []⟩, ⟨[15, 1], some 16, [], []⟩, ⟨[15, 5], some 17, [], []⟩, ⟨[15, 17], some 18, [[5]], []⟩, ⟨[15, 18], some 19, [], []⟩, ⟨[15, 16, 19], some 20, [], []⟩, ⟨[15, 20], some 21, [], []⟩, ⟨[15, 5], some 22, [[5]], []⟩, ⟨[15, 21, 22], some 23, [], []⟩, ⟨[15, 23], some 24, [], []⟩, ⟨[24], some 6, [], []⟩] (by kernel_rfl) (fun k9 => ?_) ?_
 ·skip
  refine .load (.no rfl) rfl t34 rfl rfl (.ptr _ _ _ _ _ rfl) rfl rfl rfl rfl <| .move (.no rfl) rfl rfl rfl rfl <| .call (.no rfl) rfl [] [] (c_TableOk d t (by first | assumption | exact hx.2 | exact (Table.leaf g1_3 g1_8).1 | exact fits_of (Table.leaf g1_3 g1_8).2.2.2.2 g1_8 | (have h9 := Table.leaf g1_3 g1_8; omega)) (by first | assumption | exact hx.2 | exact (Table.leaf g1_3 g1_8).1 | exact fits_of (Table.leaf g1_3 g1_8).2.2.2.2 g1_8 | (have h9 := Table.leaf g1_3 g1_8; omega))) rfl rfl rfl rfl rfl (.dd (.dd (.dd (.dd .nil)))) rfl rfl (fun h => absurd rfl h) (.own [9, 0] .nil) (.nil) rfl rfl rfl (by simp) rfl rfl rfl <| .moveB (.no rfl) rfl rfl rfl rfl fun b10 g1_3 => ?_
  cases b10
  ·skip
   refine .off rfl rfl rfl rfl rfl rfl rfl <| .off rfl rfl rfl rfl rfl rfl rfl <| .off rfl rfl rfl rfl rfl rfl rfl <| .pick (.no rfl) rfl rfl rfl rfl rfl <| .move (.no rfl) rfl rfl rfl rfl <| .off rfl rfl rfl rfl rfl rfl rfl <| .off rfl rfl rfl rfl rfl rfl rfl <| .off rfl rfl rfl rfl rfl rfl rfl <| .off rfl rfl rfl rfl rfl rfl rfl ?_
   refine .off rfl rfl rfl rfl rfl rfl rfl <| .off rfl rfl rfl rfl rfl rfl rfl <| .off rfl rfl rfl rfl rfl rfl rfl <| .off rfl rfl rfl rfl rfl rfl rfl <| .pick (.no rfl) rfl rfl rfl rfl rfl <| .assign (.no rfl) rfl rfl rfl rfl ?_
   exact .fin () (.of (.cons (svB (show (false) = (((Table.ok d t && Store.okIn d s) && Env.has (t.getD ((leafN s.flags).toNat) default) s)) by first | (simp only [g1_3, Bool.true_or, Bool.false_or, Bool.true_and, Bool.false_and, Bool.not_true, Bool.not_false]; done) | simp [g1_3])) .nil) .nil)
  ·skip
   refine .load (.on rfl rfl rfl rfl rfl) rfl t34 rfl rfl (.ptr _ _ _ _ _ rfl) rfl rfl rfl rfl <| .load (.on rfl rfl rfl rfl rfl) rfl t74 rfl rfl (.ptr _ _ _ _ _ rfl) rfl rfl rfl rfl <| .call (.on rfl rfl rfl rfl rfl) rfl [] [] (c_isStore d s) rfl rfl rfl rfl rfl (.dd (.dd (.dd (.dd (.dd (.dd .nil)))))) rfl rfl (fun h => absurd rfl h) (.own [13, 0] .nil) (.nil) rfl rfl rfl (by simp) rfl rfl rfl <| .pick (.no rfl) rfl rfl rfl rfl rfl <| .moveB (.no rfl) rfl rfl rfl rfl fun b11 g1_8 => ?_
   cases b11
   ·skip
    refine .off rfl rfl rfl rfl rfl rfl rfl <| .off rfl rfl rfl rfl rfl rfl rfl <| .off rfl rfl rfl rfl rfl rfl rfl <| .off rfl rfl rfl rfl rfl rfl rfl <| .off rfl rfl rfl rfl rfl rfl rfl <| .off rfl rfl rfl rfl rfl rfl rfl <| .off rfl rfl rfl rfl rfl rfl rfl <| .off rfl rfl rfl rfl rfl rfl rfl <| .pick (.no rfl) rfl rfl rfl rfl rfl ?_
    refine .assign (.no rfl) rfl rfl rfl rfl ?_
    exact .fin () (.of (.cons (svB (show (false) = (((Table.ok d t && Store.okIn d s) && Env.has (t.getD ((leafN s.flags).toNat) default) s)) by first | (simp only [g1_3, g1_8, Bool.true_or, Bool.false_or, Bool.true_and, Bool.false_and, Bool.not_true, Bool.not_false]; done) | simp [g1_3, g1_8])) .nil) .nil)
   ·skip
    refine .move (.on rfl rfl rfl rfl rfl) rfl rfl rfl rfl <| .fieldAddrP (.on rfl rfl rfl rfl rfl) rfl t74 rfl rfl t65 rfl rfl rfl rfl <| .load (.on rfl rfl rfl rfl rfl) rfl t65 rfl rfl (.ptr _ _ _ _ _ rfl) rfl rfl rfl rfl <| .call (.on rfl rfl rfl rfl rfl) rfl [] [] (c_leafOf s.flags (by first | assumption | exact hx.2 | exact (Table.leaf g1_3 g1_8).1 | exact fits_of (Table.leaf g1_3 g1_8).2.2.2.2 g1_8 | (have h9 := Table.leaf g1_3 g1_8; omega))) rfl rfl rfl rfl rfl (.dd .nil) rfl rfl (fun h => absurd rfl h) (.own [19, 0] .nil) (.nil) rfl rfl rfl (by simp) rfl rfl rfl <| .indexAddr (.on rfl rfl rfl rfl rfl) rfl ((leafN s.flags).toNat) t46 rfl t106 rfl rfl rfl (.d _ _) rfl rfl (by (have h9 := Table.leaf g1_3 g1_8; omega)) (map_get (by have h9 := Table.leaf g1_3 g1_8; omega)) rfl rfl <| .load (.on rfl rfl rfl rfl rfl) rfl t106 rfl rfl (.d _) rfl rfl rfl rfl ?_
    refine .load (.on rfl rfl rfl rfl rfl) rfl t74 rfl rfl (.ptr _ _ _ _ _ rfl) rfl rfl rfl rfl <| .call (.on rfl rfl rfl rfl rfl) rfl [] [] (c_hasStore (t.getD ((leafN s.flags).toNat) default) s (by first | assumption | exact hx.2 | exact (Table.leaf g1_3 g1_8).1 | exact fits_of (Table.leaf g1_3 g1_8).2.2.2.2 g1_8 | (have h9 := Table.leaf g1_3 g1_8; omega))) rfl rfl rfl rfl rfl (.dd (.dd (.dd (.dd (.dd (.dd .nil)))))) rfl rfl (fun h => absurd rfl h) (.own [23, 0] .nil) (.nil) rfl rfl rfl (by simp) rfl rfl rfl <| .pick (.no rfl) rfl rfl rfl rfl rfl <| .assign (.no rfl) rfl rfl rfl rfl ?_
    exact .fin () (.of (.cons (svB (show (Env.has (t.getD ((leafN s.flags).toNat) default) s) = (((Table.ok d t && Store.okIn d s) && Env.has (t.getD ((leafN s.flags).toNat) default) s)) by first | (simp only [g1_3, g1_8, Bool.true_or, Bool.false_or, Bool.true_and, Bool.false_and, Bool.not_true, Bool.not_false]; done) | simp [g1_3, g1_8])) .nil) .nil)
 intro _
 refine .ret ?_
 exact fin0 (.inr rfl) (.one (svB (show (((Table.ok d t && Store.okIn d s) && Env.has (t.getD ((leafN s.flags).toNat) default) s)) = (Table.hasIn d t s) by rfl)) .nil) (.dd .nil) rfl
end Go.Proofs

namespace Go.Proofs
open Go Go.Proofs Go.Ev

def i241 : TI := ⟨.sl 3, 1, 24, [.slice none 0 0]⟩
theorem t241 : TyOk Tryz.prog 241 i241 := ⟨Tryz.underlying241, by kernel_rfl⟩
theorem z241 : ZOk Tryz.prog 241 i241 := ⟨t241, rfl⟩
theorem c_sTokenOk (t : List Entry) : Trip Tryz.prog 106 [(false, 1)] ([.sl false 145 2 (List.map Entry.c (t))]) [(false, 1)] [.v (.bool (tokOk t))] [] := by
 refine Trip.of Tryz.func106 (by decide) (c := _) rfl rfl (shB_ok rfl) (Nat.le_of_ble_eq_true rfl) rfl (AftOk.nil _) <| .sl (t := 0) rfl fun hs1l => .seq <| .rs fun k2 => .as rfl <| .z <| .seq <| .seq <| .rs fun k3 => ?_
 refine .mv rfl <| .g (fun _ τ => ⟨_, .len (.no rfl) rfl (z := (t.length : Int)) t72 rfl rfl rfl (.d _ _) (map_len _ _) rfl τ⟩) <| .bi rfl <| .z ?_
 refine .cond (t := decide ((t.length : Int) > 3)) rfl (fun c0 => ?_) (fun c0 => ?_)
 ·have c0 := of_decide_eq_true c0
  refine .seq <| .rs fun k4 => .as rfl <| .z <| .ret ?_
  exact fin0 (.inr rfl) (.one (svB (show (false) = (tokOk t) by (rw [tokOk_no c0]))) .nil) (.dd .nil) rfl
 ·have c0 := of_decide_eq_false c0
  refine .skip <| .seq <| .seq <| .rs fun k6 => .as rfl <| .z <| .block ?_
  refine .loop (X := Nat) (fun ζ => .of [(0, .one (.d (.sl false 145 2 (List.map Entry.c (t))))), (3, .one (.d (.v (.int .i64 ((ζ : Int))))))] []) (fun ζ => ζ ≤ t.length ∧ allTo ζ (fun i => Entry.ok (t.getD i default)) = true) (fun ζ => t.length - ζ) ?_ ?_
  ·skip
   exact .here 0 (.of (.cons rfl (.cons (svI (show (0) = ((0 : Int)) by first | rfl | omega | exact wrap_le (by omega) (by omega) | (rw [wrap_le (by omega) (by omega)]; omega))) .nil)) .nil) (show 0 ≤ t.length ∧ allTo 0 (fun i => Entry.ok (t.getD i default)) = true by exact ⟨by omega, rfl⟩)
  ·rintro j hI
   have hI : j ≤ t.length ∧ allTo j (fun i => Entry.ok (t.getD i default)) = true := hI
   refine .seq <| .seq <| .rs fun k7 => .mv rfl <| .mv rfl <| .g (fun _ τ => ⟨_, .len (.no rfl) rfl (z := (t.length : Int)) t72 rfl rfl rfl (.d _ _) (map_len _ _) rfl τ⟩) <| .bi rfl <| .z ?_
   refine .cond (t := decide ((j : Int) < (t.length : Int))) rfl (fun c1 => ?_) (fun c1 => ?_)
   ·have c1 := of_decide_eq_true c1
    refine .skip <| .seq <| .block <| .seq ?_
    refine .reg (X := Unit) (fun ζ => .of [(0, .one (.d (.sl false 145 2 (List.map Entry.c (t))))), (3, .one (.d (.v (.int .i64 ((j : Int)))))), (28, .one (.d (.v (.bool ((!(inR ((t.getD j default).line) 0 29) || !(inR ((t.getD j default).pick) 0 4)))))))] []) [⟨[0], some 13, [], []⟩, ⟨[3], some 14, [], []⟩, ⟨[13, 14], some 15, [], []⟩, ⟨[15], some 16, [], []⟩, ⟨[16], some 17, [], []⟩, ⟨[17], some 18, [], []⟩, ⟨[18], some 19, [], []⟩, ⟨[19], some 20, [], []⟩, ⟨[20, 0], some 21, [], []⟩, ⟨[20, 3], some 22, [], []⟩, ⟨[20, 21, 22], some 23, [], []⟩, ⟨[20, 23], some 24, [], []⟩, ⟨[20, 24], some 25, [], []⟩, ⟨[20, 25], some 26, [], []⟩, ⟨[20, 26], some 27, [], []⟩, ⟨[20, 27], some 28, [], []⟩] (fun k8 => ?_) ?_
    ·skip
     refine .move (.no rfl) rfl rfl rfl rfl <| .move (.no rfl) rfl rfl rfl rfl <| .indexAddr (.no rfl) rfl (j) t72 rfl t145 rfl rfl rfl (.d _ _) rfl rfl rfl (map_get (by omega)) rfl rfl <| .fieldAddr (.no rfl) rfl t145 rfl rfl t2 rfl rfl rfl rfl [] (by simp) (by intro _ _ _ h; cases h) rfl rfl <| .load (.no rfl) rfl t2 rfl rfl (.d _) rfl rfl rfl rfl <| .call (.no rfl) rfl [] [] (c_l1In ((t.getD j default).line) 0 29) rfl rfl rfl rfl rfl (.dd (.dd (.dd .nil))) rfl rfl (fun h => absurd rfl h) (.own [18, 0] .nil) (.nil) rfl rfl rfl (by simp) rfl rfl rfl <| .un (.no rfl) rfl rfl rfl rfl rfl <| .moveB (.no rfl) rfl rfl rfl rfl fun b9 g6_7 => ?_
     cases b9
     ·skip
      refine .move (.on rfl rfl rfl rfl rfl) rfl rfl rfl rfl <| .move (.on rfl rfl rfl rfl rfl) rfl rfl rfl rfl <| .indexAddr (.on rfl rfl rfl rfl rfl) rfl (j) t72 rfl t145 rfl rfl rfl (.d _ _) rfl rfl rfl (map_get (by omega)) rfl rfl <| .fieldAddr (.on rfl rfl rfl rfl rfl) rfl t145 rfl rfl t2 rfl rfl rfl rfl [] (by simp) (by intro _ _ _ h; cases h) rfl rfl <| .load (.on rfl rfl rfl rfl rfl) rfl t2 rfl rfl (.d _) rfl rfl rfl rfl <| .call (.on rfl rfl rfl rfl rfl) rfl [] [] (c_l1In ((t.getD j default).pick) 0 4) rfl rfl rfl rfl rfl (.dd (.dd (.dd .nil))) rfl rfl (fun h => absurd rfl h) (.own [26, 0] .nil) (.nil) rfl rfl rfl (by simp) rfl rfl rfl <| .un (.on rfl rfl rfl rfl rfl) rfl rfl rfl rfl rfl <| .pick (.no rfl) rfl rfl rfl rfl rfl ?_
      exact .fin () (.of (.cons rfl (.cons rfl (.cons (svB (show (!(inR ((t.getD j default).pick) 0 4)) = ((!(inR ((t.getD j default).line) 0 29) || !(inR ((t.getD j default).pick) 0 4))) by first | (simp only [g6_7, Bool.true_or, Bool.false_or, Bool.true_and, Bool.false_and, Bool.not_true, Bool.not_false]; done) | simp [g6_7])) .nil))) .nil)
     ·skip
      refine .off rfl rfl rfl rfl rfl rfl rfl <| .off rfl rfl rfl rfl rfl rfl rfl <| .off rfl rfl rfl rfl rfl rfl rfl <| .off rfl rfl rfl rfl rfl rfl rfl <| .off rfl rfl rfl rfl rfl rfl rfl <| .off rfl rfl rfl rfl rfl rfl rfl <| .off rfl rfl rfl rfl rfl rfl rfl <| .pick (.no rfl) rfl rfl rfl rfl rfl ?_
      exact .fin () (.of (.cons rfl (.cons rfl (.cons (svB (show (true) = ((!(inR ((t.getD j default).line) 0 29) || !(inR ((t.getD j default).pick) 0 4))) by first | (simp only [g6_7, Bool.true_or, Bool.false_or, Bool.true_and, Bool.false_and, Bool.not_true, Bool.not_false]; done) | simp [g6_7])) .nil))) .nil)
    intro _
    refine .cond (t := (!(inR ((t.getD j default).line) 0 29) || !(inR ((t.getD j default).pick) 0 4))) rfl (fun c2 => ?_) (fun c2 => ?_)
    ·have c2 := (oT (nT id) (nT id)) c2
     refine .seq <| .rs fun k10 => .as rfl <| .z <| .ret ?_
     exact fin0 (.inr rfl) (.one (svB (show (false) = (tokOk t) by (rw [tokOk_fail (j := j) (by omega) c2]))) .nil) (.dd .nil) rfl
    ·have c2 := (oF (nF id) (nF id)) c2
     refine .skip <| .rs fun k12 => .mv rfl <| .bi rfl <| .as rfl <| .z ?_
     exact .here (j + 1) (.of (.cons rfl (.cons (svI (show (IntKind.wrap .i64 ((j : Int) + 1)) = (((j + 1) : Int)) by first | rfl | omega | exact wrap_le (by omega) (by omega) | (rw [wrap_le (by omega) (by omega)]; omega))) .nil)) .nil) ⟨(show (j + 1) ≤ t.length ∧ allTo (j + 1) (fun i => Entry.ok (t.getD i default)) = true by exact ⟨by omega, allTo_step hI.2 (entry_of c2)⟩), (show t.length - (j + 1) < t.length - j by omega)⟩
   ·have c1 := of_decide_eq_false c1
    refine .exit <| .seq <| .rs fun k13 => .as rfl <| .z <| .ret ?_
    exact fin0 (.inr rfl) (.one (svB (show (true) = (tokOk t) by (rw [tokOk_done (j := j) c0 (by omega) hI.2]))) .nil) (.dd .nil) rfl
theorem c_l9Cmp (a : List Entry) (b : List Entry) (ha : tokOk a = true) (hb : tokOk b = true) : Trip Tryz.prog 142 [(false, 1), (false, 1)] ([.sl false 145 2 (List.map Entry.c (a))] ++ [.sl false 145 2 (List.map Entry.c (b))]) [(false, 1)] [.v (.int .i64 (tokCmp a b))] [] := by
 refine Trip.of Tryz.func142 (by decide) (c := _) rfl rfl (shB_ok rfl) (Nat.le_of_ble_eq_true rfl) rfl (AftOk.nil _) <| .sl (t := 0) rfl fun hs1l => .sl (t := 1) rfl fun hs2l => .seq <| .rs fun k3 => .as rfl <| .z <| .seq <| .seq ?_
 refine .rs fun k4 => .mv rfl <| .g (fun _ τ => ⟨_, .len (.no rfl) rfl (z := (a.length : Int)) t72 rfl rfl rfl (.d _ _) (map_len _ _) rfl τ⟩) <| .mv rfl <| .g (fun _ τ => ⟨_, .len (.no rfl) rfl (z := (b.length : Int)) t72 rfl rfl rfl (.d _ _) (map_len _ _) rfl τ⟩) <| .bi rfl <| .z ?_
 refine .cond (t := (a.length : Int) != (b.length : Int)) rfl (fun c0 => ?_) (fun c0 => ?_)
 ·have c0 := (by simpa using c0 : ¬ ((a.length : Int) = (b.length : Int)))
  refine .seq <| .seq <| .rs fun k5 => .mv rfl <| .g (fun _ τ => ⟨_, .len (.no rfl) rfl (z := (a.length : Int)) t72 rfl rfl rfl (.d _ _) (map_len _ _) rfl τ⟩) <| .mv rfl <| .g (fun _ τ => ⟨_, .len (.no rfl) rfl (z := (b.length : Int)) t72 rfl rfl rfl (.d _ _) (map_len _ _) rfl τ⟩) <| .bi rfl <| .z ?_
  refine .cond (t := decide ((a.length : Int) < (b.length : Int))) rfl (fun c1 => ?_) (fun c1 => ?_)
  ·have c1 := of_decide_eq_true c1
   refine .seq <| .rs fun k6 => .as rfl <| .z <| .ret ?_
   exact fin0 (.inr rfl) (.one (svI (show (-1) = (tokCmp a b) by exact tokCmp_lt c0 c1)) .nil) (.dd .nil) rfl
  ·have c1 := of_decide_eq_false c1
   refine .skip <| .seq <| .rs fun k8 => .as rfl <| .z <| .ret ?_
   exact fin0 (.inr rfl) (.one (svI (show (1) = (tokCmp a b) by exact tokCmp_gt c0 c1)) .nil) (.dd .nil) rfl
 ·have c0 := (by simpa using c0 : (a.length : Int) = (b.length : Int))
  refine .skip <| .seq <| .seq <| .rs fun k10 => .as rfl <| .z <| .block ?_
  refine .loop (X := Nat) (fun ζ => .of [(0, .one (.d (.sl false 145 2 (List.map Entry.c (a))))), (1, .one (.d (.sl false 145 2 (List.map Entry.c (b))))), (5, .one (.d (.v (.int .i64 ((ζ : Int))))))] []) (fun ζ => ζ ≤ a.length ∧ lexC entCmp (a.drop ζ) (b.drop ζ) = lexC entCmp a b) (fun ζ => a.length - ζ) ?_ ?_
  ·skip
   exact .here 0 (.of (.cons rfl (.cons rfl (.cons (svI (show (0) = ((0 : Int)) by first | rfl | omega | exact wrap_le (by omega) (by omega) | (rw [wrap_le (by omega) (by omega)]; omega))) .nil))) .nil) (show 0 ≤ a.length ∧ lexC entCmp (a.drop 0) (b.drop 0) = lexC entCmp a b by exact ⟨by omega, rfl⟩)
  ·rintro j hI
   have hI : j ≤ a.length ∧ lexC entCmp (a.drop j) (b.drop j) = lexC entCmp a b := hI
   refine .seq <| .seq <| .rs fun k11 => .mv rfl <| .mv rfl <| .g (fun _ τ => ⟨_, .len (.no rfl) rfl (z := (a.length : Int)) t72 rfl rfl rfl (.d _ _) (map_len _ _) rfl τ⟩) <| .bi rfl <| .z ?_
   refine .cond (t := decide ((j : Int) < (a.length : Int))) rfl (fun c2 => ?_) (fun c2 => ?_)
   ·have c2 := of_decide_eq_true c2
    refine .skip <| .seq <| .block <| .seq ?_
    refine .regD (X := Unit) (by kernel_rfl) (fun ζ => .of [(0, .one (.d (.sl false 145 2 (List.map Entry.c (a))))), (1, .one (.d (.sl false 145 2 (List.map Entry.c (b))))), (5, .one (.d (.v (.int .i64 ((j : Int)))))), (6, .one (.d (.v (.int .i64 (IntKind.wrap .i64 ((IntKind.wrap .i64 (10 * ((a.getD j default).line))) + ((a.getD j default).pick)))))))] []) [⟨[0], some 24, [], []⟩, ⟨[5], some 25, [], []⟩, ⟨[24, 25], some 26, [], []⟩, ⟨[26], some 27, [], []⟩, ⟨[27], some 28, [], []⟩, ⟨[28], some 29, [], []⟩, ⟨[0], some 30, [], []⟩, ⟨[5], some 31, [], []⟩, ⟨[30, 31], some 32, [], []⟩, ⟨[32], some 33, [], []⟩, ⟨[33], some 34, [], []⟩, ⟨[29, 34], some 35, [], []⟩, ⟨[35], some 6, [], []⟩] (by kernel_rfl) (fun k12 => ?_) ?_
    ·skip
     refine .move (.no rfl) rfl rfl rfl rfl <| .move (.no rfl) rfl rfl rfl rfl <| .indexAddr (.no rfl) rfl (j) t72 rfl t145 rfl rfl rfl (.d _ _) rfl rfl rfl (map_get (by omega)) rfl rfl <| .fieldAddr (.no rfl) rfl t145 rfl rfl t2 rfl rfl rfl rfl [] (by simp) (by intro _ _ _ h; cases h) rfl rfl <| .load (.no rfl) rfl t2 rfl rfl (.d _) rfl rfl rfl rfl <| .bin (.no rfl) rfl rfl rfl rfl rfl rfl <| .move (.no rfl) rfl rfl rfl rfl <| .move (.no rfl) rfl rfl rfl rfl <| .indexAddr (.no rfl) rfl (j) t72 rfl t145 rfl rfl rfl (.d _ _) rfl rfl rfl (map_get (by omega)) rfl rfl ?_
     refine .fieldAddr (.no rfl) rfl t145 rfl rfl t2 rfl rfl rfl rfl [] (by simp) (by intro _ _ _ h; cases h) rfl rfl <| .load (.no rfl) rfl t2 rfl rfl (.d _) rfl rfl rfl rfl <| .bin (.no rfl) rfl rfl rfl rfl rfl rfl <| .assign (.no rfl) rfl rfl rfl rfl ?_
     exact .fin () (.of (.r rfl) .nil)
    intro _
    refine .seq ?_
    refine .regD (X := Unit) (by kernel_rfl) (fun ζ => .of [(0, .one (.d (.sl false 145 2 (List.map Entry.c (a))))), (1, .one (.d (.sl false 145 2 (List.map Entry.c (b))))), (5, .one (.d (.v (.int .i64 ((j : Int)))))), (6, .one (.d (.v (.int .i64 (IntKind.wrap .i64 ((IntKind.wrap .i64 (10 * ((a.getD j default).line))) + ((a.getD j default).pick))))))), (7, .one (.d (.v (.int .i64 (IntKind.wrap .i64 ((IntKind.wrap .i64 (10 * ((b.getD j default).line))) + ((b.getD j default).pick)))))))] []) [⟨[1], some 36, [], []⟩, ⟨[5], some 37, [], []⟩, ⟨[36, 37], some 38, [], []⟩, ⟨[38], some 39, [], []⟩, ⟨[39], some 40, [], []⟩, ⟨[40], some 41, [], []⟩, ⟨[1], some 42, [], []⟩, ⟨[5], some 43, [], []⟩, ⟨[42, 43], some 44, [], []⟩, ⟨[44], some 45, [], []⟩, ⟨[45], some 46, [], []⟩, ⟨[41, 46], some 47, [], []⟩, ⟨[47], some 7, [], []⟩] (by kernel_rfl) (fun k13 => ?_) ?_
    ·skip
     refine .move (.no rfl) rfl rfl rfl rfl <| .move (.no rfl) rfl rfl rfl rfl <| .indexAddr (.no rfl) rfl (j) t72 rfl t145 rfl rfl rfl (.d _ _) rfl rfl rfl (map_get (by omega)) rfl rfl <| .fieldAddr (.no rfl) rfl t145 rfl rfl t2 rfl rfl rfl rfl [] (by simp) (by intro _ _ _ h; cases h) rfl rfl <| .load (.no rfl) rfl t2 rfl rfl (.d _) rfl rfl rfl rfl <| .bin (.no rfl) rfl rfl rfl rfl rfl rfl <| .move (.no rfl) rfl rfl rfl rfl <| .move (.no rfl) rfl rfl rfl rfl <| .indexAddr (.no rfl) rfl (j) t72 rfl t145 rfl rfl rfl (.d _ _) rfl rfl rfl (map_get (by omega)) rfl rfl ?_
     refine .fieldAddr (.no rfl) rfl t145 rfl rfl t2 rfl rfl rfl rfl [] (by simp) (by intro _ _ _ h; cases h) rfl rfl <| .load (.no rfl) rfl t2 rfl rfl (.d _) rfl rfl rfl rfl <| .bin (.no rfl) rfl rfl rfl rfl rfl rfl <| .assign (.no rfl) rfl rfl rfl rfl ?_
     exact .fin () (.of (.r rfl) .nil)
    intro _
    refine .seq <| .seq <| .rs fun k14 => .mv rfl <| .mv rfl <| .bi rfl <| .z ?_
    refine .cond (t := decide ((IntKind.wrap .i64 ((IntKind.wrap .i64 (10 * ((a.getD j default).line))) + ((a.getD j default).pick))) < (IntKind.wrap .i64 ((IntKind.wrap .i64 (10 * ((b.getD j default).line))) + ((b.getD j default).pick))))) rfl (fun c3 => ?_) (fun c3 => ?_)
    ·have c3 := of_decide_eq_true c3
     refine .seq <| .rs fun k15 => .as rfl <| .z <| .ret ?_
     exact fin0 (.inr rfl) (.one (svI (show (-1) = (tokCmp a b) by exact l9_ret (by omega) (by omega) hI.2 ((l9_key ha hb (by omega) (j := j) (by omega)).trans (cmpI_lt c3)) (by decide))) .nil) (.dd .nil) rfl
    ·have c3 := of_decide_eq_false c3
     refine .skip <| .seq <| .rs fun k17 => .mv rfl <| .mv rfl <| .bi rfl <| .z ?_
     refine .cond (t := decide ((IntKind.wrap .i64 ((IntKind.wrap .i64 (10 * ((a.getD j default).line))) + ((a.getD j default).pick))) > (IntKind.wrap .i64 ((IntKind.wrap .i64 (10 * ((b.getD j default).line))) + ((b.getD j default).pick))))) rfl (fun c4 => ?_) (fun c4 => ?_)
     ·have c4 := of_decide_eq_true c4
      refine .seq <| .rs fun k18 => .as rfl <| .z <| .ret ?_
      exact fin0 (.inr rfl) (.one (svI (show (1) = (tokCmp a b) by exact l9_ret (by omega) (by omega) hI.2 ((l9_key ha hb (by omega) (j := j) (by omega)).trans (cmpI_gt c3 c4)) (by decide))) .nil) (.dd .nil) rfl
     ·have c4 := of_decide_eq_false c4
      refine .skip <| .rs fun k20 => .mv rfl <| .bi rfl <| .as rfl <| .z ?_
      exact .here (j + 1) (.of (.cons rfl (.cons rfl (.cons (svI (show (IntKind.wrap .i64 ((j : Int) + 1)) = (((j + 1) : Int)) by first | rfl | omega | exact wrap_le (by omega) (by omega) | (rw [wrap_le (by omega) (by omega)]; omega))) .nil))) .nil) ⟨(show (j + 1) ≤ a.length ∧ lexC entCmp (a.drop (j + 1)) (b.drop (j + 1)) = lexC entCmp a b by exact ⟨by omega, (lexC_step (by omega) (by omega) ((l9_key ha hb (by omega) (j := j) (by omega)).trans (cmpI_eq c3 c4))).symm.trans hI.2⟩), (show a.length - (j + 1) < a.length - j by omega)⟩
   ·have c2 := of_decide_eq_false c2
    refine .exit <| .seq <| .rs fun k21 => .as rfl <| .z <| .ret ?_
    exact fin0 (.inr rfl) (.one (svI (show (0) = (tokCmp a b) by (rw [tokCmp_len (by omega), ← hI.2, lexC_end (by omega) (by omega)]))) .nil) (.dd .nil) rfl
theorem c_l9Live (t : List Env) : Trip Tryz.prog 143 [(false, 1)] ([.sl false 106 3 (List.map Env.c106 (t))]) [(false, 1)] [.v (.bool (t.any Env.live))] [] := by
 refine Trip.of Tryz.func143 (by decide) (c := _) rfl rfl (shB_ok rfl) (Nat.le_of_ble_eq_true rfl) rfl (AftOk.nil _) <| .sl (t := 0) rfl fun hs1l => .seq <| .rs fun k2 => .as rfl <| .z <| .seq <| .seq <| .rs fun k3 => ?_
 refine .as rfl <| .z <| .block ?_
 refine .loop (X := Nat) (fun ζ => .of [(0, .one (.d (.sl false 106 3 (List.map Env.c106 (t))))), (3, .one (.d (.v (.int .i64 ((ζ : Int))))))] []) (fun ζ => ζ ≤ t.length ∧ allTo ζ (fun i => !Env.live (t.getD i default)) = true) (fun ζ => t.length - ζ) ?_ ?_
 ·skip
  exact .here 0 (.of (.cons rfl (.cons (svI (show (0) = ((0 : Int)) by first | rfl | omega | exact wrap_le (by omega) (by omega) | (rw [wrap_le (by omega) (by omega)]; omega))) .nil)) .nil) (show 0 ≤ t.length ∧ allTo 0 (fun i => !Env.live (t.getD i default)) = true by exact ⟨by omega, rfl⟩)
 ·rintro j hI
  have hI : j ≤ t.length ∧ allTo j (fun i => !Env.live (t.getD i default)) = true := hI
  refine .seq <| .seq <| .rs fun k4 => .mv rfl <| .mv rfl <| .g (fun _ τ => ⟨_, .len (.no rfl) rfl (z := (t.length : Int)) t46 rfl rfl rfl (.d _ _) (map_len _ _) rfl τ⟩) <| .bi rfl <| .z ?_
  refine .cond (t := decide ((j : Int) < (t.length : Int))) rfl (fun c0 => ?_) (fun c0 => ?_)
  ·have c0 := of_decide_eq_true c0
   refine .skip <| .seq <| .block <| .seq <| .rs fun k5 => .mv rfl <| .mv rfl <| .g (fun _ τ => ⟨_, .indexAddr (.no rfl) rfl (j) t46 rfl t106 rfl rfl rfl (.d _ _) rfl rfl rfl (map_get (by omega)) rfl rfl τ⟩) <| .g (fun _ τ => ⟨_, .fieldAddr (.no rfl) rfl t106 rfl rfl t4 rfl rfl rfl rfl [] (by simp) (by intro _ _ _ h; cases h) rfl rfl τ⟩) ?_
   refine .ld t4 rfl (.d _) rfl <| .z ?_
   refine .cond (t := (t.getD j default).live) rfl (fun c1 => ?_) (fun c1 => ?_)
   ·have c1 := c1
    refine .seq <| .rs fun k6 => .as rfl <| .z <| .ret ?_
    exact fin0 (.inr rfl) (.one (svB (show (true) = (t.any Env.live) by exact (any_found (p := Env.live) (j := j) (by omega) c1).symm)) .nil) (.dd .nil) rfl
   ·have c1 := c1
    refine .skip <| .rs fun k8 => .mv rfl <| .bi rfl <| .as rfl <| .z ?_
    exact .here (j + 1) (.of (.cons rfl (.cons (svI (show (IntKind.wrap .i64 ((j : Int) + 1)) = (((j + 1) : Int)) by first | rfl | omega | exact wrap_le (by omega) (by omega) | (rw [wrap_le (by omega) (by omega)]; omega))) .nil)) .nil) ⟨(show (j + 1) ≤ t.length ∧ allTo (j + 1) (fun i => !Env.live (t.getD i default)) = true by exact ⟨by omega, allTo_step hI.2 (by rw [show Env.live (t.getD j default) = false from c1]; rfl)⟩), (show t.length - (j + 1) < t.length - j by omega)⟩
  ·have c0 := of_decide_eq_false c0
   refine .exit <| .seq <| .rs fun k9 => .as rfl <| .z <| .ret ?_
   exact fin0 (.inr rfl) (.one (svB (show (false) = (t.any Env.live) by exact (any_none (p := Env.live) (j := j) (by omega) hI.2).symm)) .nil) (.dd .nil) rfl
theorem c_isNaNi (x : Int) : Trip Tryz.prog 228 [(false, 1)] ([.v (.int .i64 (x))]) [(false, 1)] [.v (.bool (false))] [] := by
 refine Trip.of Tryz.func228 (by decide) (c := _) rfl rfl (shB_ok rfl) (Nat.le_of_ble_eq_true rfl) rfl (AftOk.nil _) <| .seq <| .rs fun k1 => .as rfl <| .z <| .seq <| .rs fun k2 => .mv rfl <| .mv rfl ?_
 refine .bi rfl <| .as rfl <| .z <| .ret ?_
 exact fin0 (.inr rfl) (.one (svB (show (x != x) = (false) by simp)) .nil) (.dd .nil) rfl
theorem c_Comparei (x : Int) (y : Int) : Trip Tryz.prog 201 [(false, 1), (false, 1)] ([.v (.int .i64 (x))] ++ [.v (.int .i64 (y))]) [(false, 1)] [.v (.int .i64 (cmpI x y))] [] := by
 refine Trip.of Tryz.func201 (by decide) (c := _) rfl rfl (shB_ok rfl) (Nat.le_of_ble_eq_true rfl) rfl (AftOk.nil _) <| .seq <| .rs fun k1 => .as rfl <| .z <| .seq <| .rs fun k2 => .mv rfl <| .c0 (c_isNaNi x) rfl (.dd .nil) (.own [8, 0] .nil) rfl ?_
 refine .as rfl <| .z <| .seq <| .rs fun k3 => .mv rfl <| .c0 (c_isNaNi y) rfl (.dd .nil) (.own [10, 0] .nil) rfl <| .as rfl <| .z <| .seq ?_
 refine .seq <| .rs fun k4 => .mv rfl <| .z ?_
 refine .cond (t := false) rfl (fun h => by cases h) (fun _ => ?_)
 refine .skip <| .seq <| .seq <| .rs fun k5 => .mv rfl <| .z ?_
 refine .cond (t := false) rfl (fun h => by cases h) (fun _ => ?_)
 refine .skip <| .seq <| .seq <| .rs fun k6 => .mv rfl <| .mv rfl <| .bi rfl <| .z ?_
 refine .cond (t := decide (x < y)) rfl (fun c3 => ?_) (fun c3 => ?_)
 ·have c3 := of_decide_eq_true c3
  refine .seq <| .rs fun k7 => .as rfl <| .z <| .ret ?_
  exact fin0 (.inr rfl) (.one (svI (show (-1) = (cmpI x y) by (rw [cmpI_lt c3]))) .nil) (.dd .nil) rfl
 ·have c3 := of_decide_eq_false c3
  refine .skip <| .seq <| .seq <| .rs fun k9 => .mv rfl <| .mv rfl <| .bi rfl <| .z ?_
  refine .cond (t := decide (x > y)) rfl (fun c4 => ?_) (fun c4 => ?_)
  ·have c4 := of_decide_eq_true c4
   refine .seq <| .rs fun k10 => .as rfl <| .z <| .ret ?_
   exact fin0 (.inr rfl) (.one (svI (show (1) = (cmpI x y) by (rw [cmpI_gt c3 c4]))) .nil) (.dd .nil) rfl
  ·have c4 := of_decide_eq_false c4
   refine .skip <| .seq <| .rs fun k12 => .as rfl <| .z <| .ret ?_
   exact fin0 (.inr rfl) (.one (svI (show (0) = (cmpI x y) by (rw [cmpI_eq c3 c4]))) .nil) (.dd .nil) rfl
theorem c_Ori (l : List Int) : Trip Tryz.prog 200 [(false, 1)] ([.sl false 3 1 (List.map i64c (l))]) [(false, 1)] [.v (.int .i64 (orL l))] [] := by
 refine Trip.of Tryz.func200 (by decide) (c := _) rfl rfl (shB_ok rfl) (Nat.le_of_ble_eq_true rfl) rfl (AftOk.nil _) <| .sl (t := 0) rfl fun hs1l => .seq <| .rs fun k2 => .as rfl <| .z <| .seq <| .rs fun k3 => .as rfl ?_
 refine .z <| .seq <| .seq <| .rs fun k4 => .mv rfl <| .g (fun _ τ => ⟨_, .len (.no rfl) rfl (z := (l.length : Int)) t241 rfl rfl rfl (.d _ _) (map_len _ _) rfl τ⟩) <| .mv rfl <| .z <| .block ?_
 refine .loop (X := Nat) (fun ζ => .of [(3, .one (.d (.v (.int .i64 (0))))), (6, .one (.d (.sl false 3 1 (List.map i64c (l))))), (7, .one (.d (.v (.int .i64 ((l.length : Int)))))), (8, .one (.d (.v (.int .i64 ((ζ : Int))))))] []) (fun ζ => ζ ≤ l.length ∧ orL (l.drop ζ) = orL l) (fun ζ => l.length - ζ) ?_ ?_
 ·skip
  exact .here 0 (.of (.cons rfl (.cons rfl (.cons rfl (.cons (svI (show (0) = ((0 : Int)) by first | rfl | omega | exact wrap_le (by omega) (by omega) | (rw [wrap_le (by omega) (by omega)]; omega))) .nil)))) .nil) (show 0 ≤ l.length ∧ orL (l.drop 0) = orL l by exact ⟨by omega, rfl⟩)
 ·rintro j hI
  have hI : j ≤ l.length ∧ orL (l.drop j) = orL l := hI
  refine .seq <| .rs fun k5 => .bi rfl <| .z <| .seq ?_
  refine .cond (t := decide ((j : Int) < (l.length : Int))) rfl (fun c0 => ?_) (fun c0 => ?_)
  ·have c0 := of_decide_eq_true c0
   refine .skip <| .seq <| .block <| .seq <| .rs fun k6 => .g (fun _ τ => ⟨_, .indexAddr (.no rfl) rfl (j) t241 rfl t3 rfl rfl rfl (.d _ _) rfl rfl rfl (map_get (by omega)) rfl rfl τ⟩) <| .ld t3 rfl (.d _) rfl <| .as rfl <| .z ?_
   refine .seq <| .rs fun k7 => .mv rfl <| .mv rfl <| .bi rfl <| .z ?_
   refine .cond (t := (l.getD j default) != 0) rfl (fun c1 => ?_) (fun c1 => ?_)
   ·have c1 := (by simpa using c1 : ¬ ((l.getD j default) = 0))
    refine .seq <| .rs fun k8 => .mv rfl <| .as rfl <| .z <| .ret ?_
    exact fin0 (.inr rfl) (.one (svI (show (l.getD j default) = (orL l) by (rw [← hI.2, orL_here (by omega) c1]))) .nil) (.dd .nil) rfl
   ·have c1 := (by simpa using c1 : (l.getD j default) = 0)
    refine .skip <| .rs fun k10 => .bi rfl <| .mv rfl <| .z ?_
    exact .here (j + 1) (.of (.cons rfl (.cons rfl (.cons rfl (.cons (svI (show (IntKind.wrap .i64 ((j : Int) + 1)) = (((j + 1) : Int)) by first | rfl | omega | exact wrap_le (by omega) (by omega) | (rw [wrap_le (by omega) (by omega)]; omega))) .nil)))) .nil) ⟨(show (j + 1) ≤ l.length ∧ orL (l.drop (j + 1)) = orL l by exact ⟨by omega, (orL_step (by omega) (by simpa using c1)).symm.trans hI.2⟩), (show l.length - (j + 1) < l.length - j by omega)⟩
  ·have c0 := of_decide_eq_false c0
   refine .exit <| .seq <| .rs fun k11 => .mv rfl <| .as rfl <| .z <| .ret ?_
   exact fin0 (.inr rfl) (.one (svI (show (0) = (orL l) by (rw [← hI.2, orL_end (by omega)]))) .nil) (.dd .nil) rfl
theorem c_isNaNl (x : Int) : Trip Tryz.prog 229 [(false, 1)] ([.v (.int .i64 (x))]) [(false, 1)] [.v (.bool (false))] [] := by
 refine Trip.of Tryz.func229 (by decide) (c := _) rfl rfl (shB_ok rfl) (Nat.le_of_ble_eq_true rfl) rfl (AftOk.nil _) <| .seq <| .rs fun k1 => .as rfl <| .z <| .seq <| .rs fun k2 => .mv rfl <| .mv rfl ?_
 refine .bi rfl <| .as rfl <| .z <| .ret ?_
 exact fin0 (.inr rfl) (.one (svB (show (x != x) = (false) by simp)) .nil) (.dd .nil) rfl
theorem c_Comparel (x : Int) (y : Int) : Trip Tryz.prog 204 [(false, 1), (false, 1)] ([.v (.int .i64 (x))] ++ [.v (.int .i64 (y))]) [(false, 1)] [.v (.int .i64 (cmpI x y))] [] := by
 refine Trip.of Tryz.func204 (by decide) (c := _) rfl rfl (shB_ok rfl) (Nat.le_of_ble_eq_true rfl) rfl (AftOk.nil _) <| .seq <| .rs fun k1 => .as rfl <| .z <| .seq <| .rs fun k2 => .mv rfl <| .c0 (c_isNaNl x) rfl (.dd .nil) (.own [8, 0] .nil) rfl ?_
 refine .as rfl <| .z <| .seq <| .rs fun k3 => .mv rfl <| .c0 (c_isNaNl y) rfl (.dd .nil) (.own [10, 0] .nil) rfl <| .as rfl <| .z <| .seq ?_
 refine .seq <| .rs fun k4 => .mv rfl <| .z ?_
 refine .cond (t := false) rfl (fun h => by cases h) (fun _ => ?_)
 refine .skip <| .seq <| .seq <| .rs fun k5 => .mv rfl <| .z ?_
 refine .cond (t := false) rfl (fun h => by cases h) (fun _ => ?_)
 refine .skip <| .seq <| .seq <| .rs fun k6 => .mv rfl <| .mv rfl <| .bi rfl <| .z ?_
 refine .cond (t := decide (x < y)) rfl (fun c3 => ?_) (fun c3 => ?_)
 ·have c3 := of_decide_eq_true c3
  refine .seq <| .rs fun k7 => .as rfl <| .z <| .ret ?_
  exact fin0 (.inr rfl) (.one (svI (show (-1) = (cmpI x y) by (rw [cmpI_lt c3]))) .nil) (.dd .nil) rfl
 ·have c3 := of_decide_eq_false c3
  refine .skip <| .seq <| .seq <| .rs fun k9 => .mv rfl <| .mv rfl <| .bi rfl <| .z ?_
  refine .cond (t := decide (x > y)) rfl (fun c4 => ?_) (fun c4 => ?_)
  ·have c4 := of_decide_eq_true c4
   refine .seq <| .rs fun k10 => .as rfl <| .z <| .ret ?_
   exact fin0 (.inr rfl) (.one (svI (show (1) = (cmpI x y) by (rw [cmpI_gt c3 c4]))) .nil) (.dd .nil) rfl
  ·have c4 := of_decide_eq_false c4
   refine .skip <| .seq <| .rs fun k12 => .as rfl <| .z <| .ret ?_
   exact fin0 (.inr rfl) (.one (svI (show (0) = (cmpI x y) by (rw [cmpI_eq c3 c4]))) .nil) (.dd .nil) rfl
end Go.Proofs

namespace Go.Proofs
open Go Go.Proofs Go.Ev

def i248 : TI := ⟨.fn, 1, 8, [.nilFunc]⟩
theorem t248 : TyOk Tryz.prog 248 i248 := ⟨⟨_, _, _, Tryz.underlying248⟩, by kernel_rfl⟩
theorem z248 : ZOk Tryz.prog 248 i248 := ⟨t248, rfl⟩
theorem c_CompareFunc (a : List Entry) (b : List Entry) (F_p : FuncId) (first_p : List (Bool × List D)) (caps_p : List D) (p : Entry → Entry → Int) (h_p : ∀ (x0 : Entry) (x1 : Entry), FnTrip Tryz.prog F_p first_p caps_p [(true, 2), (true, 2)] (Entry.c x0 ++ Entry.c x1) [(false, 1)] [.v (.int .i64 (p x0 x1))]) : Trip Tryz.prog 202 [(false, 1), (false, 1), (false, 1)] ([.sl false 145 2 (List.map Entry.c (a))] ++ [.sl false 145 2 (List.map Entry.c (b))] ++ [.fn F_p first_p caps_p]) [(false, 1)] [.v (.int .i64 (lexC p a b))] [] := by
 refine Trip.of Tryz.func202 (by decide +kernel) (c := _) rfl rfl (shB_ok rfl) (Nat.le_of_ble_eq_true rfl) rfl (AftOk.nil _) <| .sl (t := 0) rfl fun hs1l => .sl (t := 1) rfl fun hs2l => .seq <| .rs fun k3 => .as rfl <| .z <| .seq <| .seq ?_
 refine .rs fun k4 => .mv rfl <| .g (fun _ τ => ⟨_, .len (.no rfl) rfl (z := (a.length : Int)) t72 rfl rfl rfl (.d _ _) (map_len _ _) rfl τ⟩) <| .mv rfl <| .z <| .block ?_
 refine .loop (X := Nat) (fun ζ => .of [(0, .one (.d (.sl false 145 2 (List.map Entry.c (a))))), (1, .one (.d (.sl false 145 2 (List.map Entry.c (b))))), (2, .one (.d (.fn F_p first_p caps_p))), (11, .one (.d (.sl false 145 2 (List.map Entry.c (a))))), (12, .one (.d (.v (.int .i64 ((a.length : Int)))))), (13, .one (.d (.v (.int .i64 ((ζ : Int))))))] []) (fun ζ => ζ ≤ a.length ∧ ζ ≤ b.length ∧ lexC p (a.drop ζ) (b.drop ζ) = lexC p a b) (fun ζ => a.length - ζ) ?_ ?_
 ·skip
  exact .here 0 (.of (.cons rfl (.cons rfl (.cons rfl (.cons rfl (.cons rfl (.cons (svI (show (0) = ((0 : Int)) by first | rfl | omega | exact wrap_le (by omega) (by omega) | (rw [wrap_le (by omega) (by omega)]; omega))) .nil)))))) .nil) (show 0 ≤ a.length ∧ 0 ≤ b.length ∧ lexC p (a.drop 0) (b.drop 0) = lexC p a b by exact ⟨by omega, by omega, rfl⟩)
 ·rintro j hI
  have hI : j ≤ a.length ∧ j ≤ b.length ∧ lexC p (a.drop j) (b.drop j) = lexC p a b := hI
  refine .seq <| .rs fun k5 => .bi rfl <| .z <| .seq ?_
  refine .cond (t := decide ((j : Int) < (a.length : Int))) rfl (fun c0 => ?_) (fun c0 => ?_)
  ·have c0 := of_decide_eq_true c0
   refine .skip <| .seq <| .block <| .seq <| .rs fun k6 => .mv rfl <| .g (fun _ τ => ⟨_, .indexAddr (.no rfl) rfl (j) t72 rfl t145 rfl rfl rfl (.d _ _) rfl rfl rfl (map_get (by omega)) rfl rfl τ⟩) <| .lda t145 rfl (.d _) rfl <| .g (fun _ τ => ⟨_, .alloc (.no rfl) rfl z145 rfl rfl rfl τ⟩) ?_
   refine .as rfl <| .g (fun _ τ => ⟨_, .store (.no rfl) rfl t145 rfl rfl rfl rfl rfl rfl rfl rfl rfl τ⟩) <| .z <| .seq <| .seq <| .rs fun k7 => .mv rfl <| .mv rfl <| .g (fun _ τ => ⟨_, .len (.no rfl) rfl (z := (b.length : Int)) t72 rfl rfl rfl (.d _ _) (map_len _ _) rfl τ⟩) ?_
   refine .bi rfl <| .z ?_
   refine .cond (t := decide ((j : Int) ≥ (b.length : Int))) rfl (fun c1 => ?_) (fun c1 => ?_)
   ·have c1 := of_decide_eq_true c1
    refine .seq <| .rs fun k8 => .as rfl <| .z <| .ret ?_
    exact fin0 (.inr rfl) (.one (svI (show (1) = (lexC p a b) by (rw [← hI.2.2, lexC_more (by omega) (by omega)]))) .nil) (.dd .nil) rfl
   ·have c1 := of_decide_eq_false c1
    refine .skip <| .seq <| .rs fun k10 => .mv rfl <| .mv rfl <| .g (fun _ τ => ⟨_, .indexAddr (.no rfl) rfl (j) t72 rfl t145 rfl rfl rfl (.d _ _) rfl rfl rfl (map_get (by omega)) rfl rfl τ⟩) <| .lda t145 rfl (.d _) rfl <| .g (fun _ τ => ⟨_, .alloc (.no rfl) rfl z145 rfl rfl rfl τ⟩) <| .g (fun _ τ => ⟨_, .store (.no rfl) rfl t145 rfl rfl rfl rfl rfl rfl rfl rfl rfl τ⟩) ?_
    refine .z <| .seq <| .rs fun k11 => .mv rfl <| .lda t145 rfl (.ptr _ _ _ _ _ rfl) rfl <| .lda t145 rfl (.ptr _ _ _ _ _ rfl) rfl <| .g (fun _ τ => ⟨_, .callF (.no rfl) rfl (ds := [.v (.int .i64 ((a.getD j default).line)), .v (.int .i64 ((a.getD j default).pick)), .v (.int .i64 ((b.getD j default).line)), .v (.int .i64 ((b.getD j default).pick))]) (h_p (a.getD j default) (b.getD j default)) rfl rfl rfl rfl (.own [29, 0] .nil) rfl rfl rfl rfl rfl rfl τ⟩) <| .as rfl <| .z ?_
    refine .seq <| .rs fun k12 => .mv rfl <| .bi rfl <| .z ?_
    refine .cond (t := (p (a.getD j default) (b.getD j default)) != 0) rfl (fun c2 => ?_) (fun c2 => ?_)
    ·have c2 := (by simpa using c2 : ¬ ((p (a.getD j default) (b.getD j default)) = 0))
     refine .seq <| .rs fun k13 => .mv rfl <| .as rfl <| .z <| .ret ?_
     exact fin0 (.inr rfl) (.one (svI (show (p (a.getD j default) (b.getD j default)) = (lexC p a b) by (rw [← hI.2.2, lexC_here (by omega) (by omega) c2]))) .nil) (.dd .nil) rfl
    ·have c2 := (by simpa using c2 : (p (a.getD j default) (b.getD j default)) = 0)
     refine .skip <| .rs fun k15 => .bi rfl <| .mv rfl <| .z ?_
     exact .here (j + 1) (.of (.cons rfl (.cons rfl (.cons rfl (.cons rfl (.cons rfl (.cons (svI (show (IntKind.wrap .i64 ((j : Int) + 1)) = (((j + 1) : Int)) by first | rfl | omega | exact wrap_le (by omega) (by omega) | (rw [wrap_le (by omega) (by omega)]; omega))) .nil)))))) .nil) ⟨(show (j + 1) ≤ a.length ∧ (j + 1) ≤ b.length ∧ lexC p (a.drop (j + 1)) (b.drop (j + 1)) = lexC p a b by exact ⟨by omega, by omega, (lexC_step (by omega) (by omega) (by simpa using c2)).symm.trans hI.2.2⟩), (show a.length - (j + 1) < a.length - j by omega)⟩
  ·have c0 := of_decide_eq_false c0
   refine .exit <| .seq <| .seq <| .rs fun k16 => .mv rfl <| .g (fun _ τ => ⟨_, .len (.no rfl) rfl (z := (a.length : Int)) t72 rfl rfl rfl (.d _ _) (map_len _ _) rfl τ⟩) <| .mv rfl <| .g (fun _ τ => ⟨_, .len (.no rfl) rfl (z := (b.length : Int)) t72 rfl rfl rfl (.d _ _) (map_len _ _) rfl τ⟩) <| .bi rfl ?_
   refine .z ?_
   refine .cond (t := decide ((a.length : Int) < (b.length : Int))) rfl (fun c3 => ?_) (fun c3 => ?_)
   ·have c3 := of_decide_eq_true c3
    refine .seq <| .rs fun k17 => .as rfl <| .z <| .ret ?_
    exact fin0 (.inr rfl) (.one (svI (show (-1) = (lexC p a b) by (rw [← hI.2.2, lexC_less (by omega) (by omega)]))) .nil) (.dd .nil) rfl
   ·have c3 := of_decide_eq_false c3
    refine .skip <| .seq <| .rs fun k19 => .as rfl <| .z <| .ret ?_
    exact fin0 (.inr rfl) (.one (svI (show (0) = (lexC p a b) by (rw [← hI.2.2, lexC_end (by omega) (by omega)]))) .nil) (.dd .nil) rfl
theorem c_cmpTok1 (x : Entry) (y : Entry) : Trip Tryz.prog 203 [(true, 2), (true, 2)] (Entry.c x ++ Entry.c y) [(false, 1)] [.v (.int .i64 (entCmp x y))] [] := by
 refine Trip.of Tryz.func203 (by decide) (c := _) rfl rfl (shB_ok rfl) (Nat.le_of_ble_eq_true rfl) rfl (AftOk.nil _) <| .seq <| .rs fun k1 => .g (fun _ τ => ⟨_, .box (.no rfl) rfl rfl rfl rfl rfl τ⟩) <| .g (fun _ τ => ⟨_, .box (.no rfl) rfl rfl rfl rfl rfl τ⟩) <| .as rfl <| .z <| .seq ?_
 refine .regD (X := Unit) (by kernel_rfl) (fun ζ => .of [(4, .one (.d (.v (.int .i64 (orL [cmpI x.line y.line, cmpI x.pick y.pick])))))] []) [⟨[2], some 5, [], []⟩, ⟨[5], some 6, [[2]], []⟩, ⟨[3], some 7, [], []⟩, ⟨[7], some 8, [[3]], []⟩, ⟨[6, 8], some 9, [], []⟩, ⟨[2], some 10, [], []⟩, ⟨[10], some 11, [[2]], []⟩, ⟨[3], some 12, [], []⟩, ⟨[12], some 13, [[3]], []⟩, ⟨[11, 13], some 14, [], []⟩, ⟨[9, 14], some 15, [], [[15]]⟩, ⟨[15], some 16, [[15]], []⟩, ⟨[16], some 4, [], []⟩] (by kernel_rfl) (fun k2 => ?_) ?_
 ·skip
  refine .fieldAddrP (.no rfl) rfl t145 rfl rfl t2 rfl rfl rfl rfl <| .load (.no rfl) rfl t2 rfl rfl (.ptr _ _ _ _ _ rfl) rfl rfl rfl rfl <| .fieldAddrP (.no rfl) rfl t145 rfl rfl t2 rfl rfl rfl rfl <| .load (.no rfl) rfl t2 rfl rfl (.ptr _ _ _ _ _ rfl) rfl rfl rfl rfl <| .call (.no rfl) rfl [] [] (c_Comparel x.line y.line) rfl rfl rfl rfl rfl (.dd (.dd .nil)) rfl rfl (fun h => absurd rfl h) (.own [9, 0] .nil) (.nil) rfl rfl rfl (by simp) rfl rfl rfl <| .fieldAddrP (.no rfl) rfl t145 rfl rfl t2 rfl rfl rfl rfl <| .load (.no rfl) rfl t2 rfl rfl (.ptr _ _ _ _ _ rfl) rfl rfl rfl rfl <| .fieldAddrP (.no rfl) rfl t145 rfl rfl t2 rfl rfl rfl rfl <| .load (.no rfl) rfl t2 rfl rfl (.ptr _ _ _ _ _ rfl) rfl rfl rfl rfl ?_
  refine .call (.no rfl) rfl [] [] (c_Comparel x.pick y.pick) rfl rfl rfl rfl rfl (.dd (.dd .nil)) rfl rfl (fun h => absurd rfl h) (.own [14, 0] .nil) (.nil) rfl rfl rfl (by simp) rfl rfl rfl <| .buildSlice (.no rfl) rfl (els := [[.v (.int .i64 (cmpI x.line y.line))], [.v (.int .i64 (cmpI x.pick y.pick))]]) t241 rfl z3 rfl rfl rfl rfl rfl rfl rfl rfl (by simp [i3]) (.cons _ _ _ _ _ _ (.d _) (.cons _ _ _ _ _ _ (.d _) .nil)) rfl rfl rfl ?_
  refine .call (.no rfl) rfl [[15]] [([15], (k2 + 1 + 1 + 1 + 1 + 1 + 1 + 1 + 1 + 1 + 1, k2 + 1 + 1 + 1 + 1 + 1 + 1 + 1 + 1 + 1 + 1, .row 3 1 ([[.v (.int .i64 (cmpI x.line y.line))], [.v (.int .i64 (cmpI x.pick y.pick))]])))] (c_Ori [cmpI x.line y.line, cmpI x.pick y.pick]) rfl rfl rfl rfl rfl (.cons (Reads.ref (Frz.of_erase (erase_slo true 3 1 i64c i64c ([cmpI x.line y.line, cmpI x.pick y.pick]) i64c_e)) (.head _) (.head _)).gives .nil) rfl rfl (fun _ => (ownCons (Owned.v _) ownNil)) (.own [16, 0] .nil) (.nil) rfl rfl rfl (AllH.get (.r rfl)) rfl rfl rfl <| .assign (.no rfl) rfl rfl rfl rfl ?_
  exact .fin () (.of (.r rfl) .nil)
 intro _
 refine .ret ?_
 exact fin0 (.inr rfl) (.one (svI (show (orL [cmpI x.line y.line, cmpI x.pick y.pick]) = (entCmp x y) by exact orL_two _ _)) .nil) (.dd .nil) rfl
theorem c_compareTokens (a : List Entry) (b : List Entry) : Trip Tryz.prog 166 [(false, 1), (false, 1)] ([.sl false 145 2 (List.map Entry.c (a))] ++ [.sl false 145 2 (List.map Entry.c (b))]) [(false, 1)] [.v (.int .i64 (tokCmp a b))] [] := by
 refine Trip.of Tryz.func166 (by decide) (c := _) rfl rfl (shB_ok rfl) (Nat.le_of_ble_eq_true rfl) rfl (AftOk.nil _) <| .sl (t := 0) rfl fun hs1l => .sl (t := 1) rfl fun hs2l => .seq <| .rs fun k3 => .as rfl <| .z <| .seq <| .rs fun k4 => ?_
 refine .mv rfl <| .g (fun _ τ => ⟨_, .len (.no rfl) rfl (z := (a.length : Int)) t72 rfl rfl rfl (.d _ _) (map_len _ _) rfl τ⟩) <| .mv rfl <| .g (fun _ τ => ⟨_, .len (.no rfl) rfl (z := (b.length : Int)) t72 rfl rfl rfl (.d _ _) (map_len _ _) rfl τ⟩) <| .c0 (c_Comparei (a.length : Int) (b.length : Int)) rfl (.dd (.dd .nil)) (.own [9, 0] .nil) rfl <| .mv rfl <| .mv rfl <| .c0 (c_CompareFunc a b 203 [] [] (fun x0 x1 => entCmp x0 x1) (fun x0 x1 => c_cmpTok1 x0 x1)) rfl (.dd (.dd (.dd .nil))) (.own [12, 0] .nil) rfl <| .g (fun _ τ => ⟨_, .buildSlice (.no rfl) rfl (els := [[.v (.int .i64 (cmpI (a.length : Int) (b.length : Int)))], [.v (.int .i64 (lexC (fun x0 x1 => entCmp x0 x1) a b))]]) t241 rfl z3 rfl rfl rfl rfl rfl rfl rfl rfl (by simp [i3]) (.cons _ _ _ _ _ _ (.d _) (.cons _ _ _ _ _ _ (.d _) .nil)) rfl rfl rfl τ⟩) ?_
 refine .g (fun _ τ => ⟨_, .call (.no rfl) rfl [[13]] [([13], (k4 + 1 + 1 + 1 + 1 + 1 + 1 + 1 + 1, k4 + 1 + 1 + 1 + 1 + 1 + 1 + 1 + 1, .row 3 1 ([[.v (.int .i64 (cmpI (a.length : Int) (b.length : Int)))], [.v (.int .i64 (lexC (fun x0 x1 => entCmp x0 x1) a b))]])))] (c_Ori [cmpI (a.length : Int) (b.length : Int), lexC (fun x0 x1 => entCmp x0 x1) a b]) rfl rfl rfl rfl rfl (.cons (Reads.ref (Frz.of_erase (erase_slo true 3 1 i64c i64c ([cmpI (a.length : Int) (b.length : Int), lexC (fun x0 x1 => entCmp x0 x1) a b]) i64c_e)) (.head _) (.head _)).gives .nil) rfl rfl (fun _ => (ownCons (Owned.v _) ownNil)) (.own [14, 0] .nil) (.nil) rfl rfl rfl (AllH.get (.r rfl)) rfl rfl rfl τ⟩) <| .as rfl <| .z <| .ret ?_
 exact fin0 (.inr rfl) (.one (svI (show (orL [cmpI (a.length : Int) (b.length : Int), lexC (fun x0 x1 => entCmp x0 x1) a b]) = (tokCmp a b) by exact orL_two _ _)) .nil) (.dd .nil) rfl
theorem c_entryOk (e : Entry) : Trip Tryz.prog 238 [(true, 2)] (Entry.c e) [(false, 1)] [.v (.bool (Entry.ok e))] [] := by
 refine Trip.of Tryz.func238 (by decide) (c := _) rfl rfl (shB_ok rfl) (Nat.le_of_ble_eq_true rfl) rfl (AftOk.nil _) <| .seq <| .rs fun k1 => .g (fun _ τ => ⟨_, .box (.no rfl) rfl rfl rfl rfl rfl τ⟩) <| .as rfl <| .z <| .seq ?_
 refine .reg (X := Unit) (fun ζ => .of [(2, .one (.d (.v (.bool ((inR e.line 0 29 && inR e.pick 0 4))))))] []) [⟨[1], some 3, [], []⟩, ⟨[3], some 4, [[1]], []⟩, ⟨[4], some 5, [], []⟩, ⟨[5], some 6, [], []⟩, ⟨[6, 1], some 7, [], []⟩, ⟨[6, 7], some 8, [[1]], []⟩, ⟨[6, 8], some 9, [], []⟩, ⟨[6, 9], some 10, [], []⟩, ⟨[10], some 2, [], []⟩] (fun k2 => ?_) ?_
 ·skip
  refine .fieldAddrP (.no rfl) rfl t145 rfl rfl t2 rfl rfl rfl rfl <| .load (.no rfl) rfl t2 rfl rfl (.ptr _ _ _ _ _ rfl) rfl rfl rfl rfl <| .call (.no rfl) rfl [] [] (c_within e.line 0 29) rfl rfl rfl rfl rfl (.dd (.dd (.dd .nil))) rfl rfl (fun h => absurd rfl h) (.own [5, 0] .nil) (.nil) rfl rfl rfl (by simp) rfl rfl rfl <| .moveB (.no rfl) rfl rfl rfl rfl fun b3 g1_3 => ?_
  cases b3
  ·skip
   refine .off rfl rfl rfl rfl rfl rfl rfl <| .off rfl rfl rfl rfl rfl rfl rfl <| .off rfl rfl rfl rfl rfl rfl rfl <| .pick (.no rfl) rfl rfl rfl rfl rfl <| .assign (.no rfl) rfl rfl rfl rfl ?_
   exact .fin () (.of (.cons (svB (show (false) = ((inR e.line 0 29 && inR e.pick 0 4)) by first | (simp only [g1_3, Bool.true_or, Bool.false_or, Bool.true_and, Bool.false_and, Bool.not_true, Bool.not_false]; done) | simp [g1_3])) .nil) .nil)
  ·skip
   refine .fieldAddrP (.on rfl rfl rfl rfl rfl) rfl t145 rfl rfl t2 rfl rfl rfl rfl <| .load (.on rfl rfl rfl rfl rfl) rfl t2 rfl rfl (.ptr _ _ _ _ _ rfl) rfl rfl rfl rfl <| .call (.on rfl rfl rfl rfl rfl) rfl [] [] (c_within e.pick 0 4) rfl rfl rfl rfl rfl (.dd (.dd (.dd .nil))) rfl rfl (fun h => absurd rfl h) (.own [9, 0] .nil) (.nil) rfl rfl rfl (by simp) rfl rfl rfl <| .pick (.no rfl) rfl rfl rfl rfl rfl <| .assign (.no rfl) rfl rfl rfl rfl ?_
   exact .fin () (.of (.cons (svB (show (inR e.pick 0 4) = ((inR e.line 0 29 && inR e.pick 0 4)) by first | (simp only [g1_3, Bool.true_or, Bool.false_or, Bool.true_and, Bool.false_and, Bool.not_true, Bool.not_false]; done) | simp [g1_3])) .nil) .nil)
 intro _
 refine .ret ?_
 exact fin0 (.inr rfl) (.one (svB (show ((inR e.line 0 29 && inR e.pick 0 4)) = (Entry.ok e) by rfl)) .nil) (.dd .nil) rfl
theorem c_IndexFuncY (l : List Entry) (F_p : FuncId) (first_p : List (Bool × List D)) (caps_p : List D) (p : Entry → Bool) (h_p : ∀ (x0 : Entry), FnTrip Tryz.prog F_p first_p caps_p [(true, 2)] (Entry.c x0) [(false, 1)] [.v (.bool (p x0))]) : Trip Tryz.prog 250 [(false, 1), (false, 1)] ([.sl false 145 2 (List.map Entry.c (l))] ++ [.fn F_p first_p caps_p]) [(false, 1)] [.v (.int .i64 (idx p l))] [] := by
 refine Trip.of Tryz.func250 (by decide) (c := _) rfl rfl (shB_ok rfl) (Nat.le_of_ble_eq_true rfl) rfl (AftOk.nil _) <| .sl (t := 0) rfl fun hs1l => .seq <| .rs fun k2 => .as rfl <| .z <| .seq <| .seq <| .rs fun k3 => ?_
 refine .mv rfl <| .g (fun _ τ => ⟨_, .len (.no rfl) rfl (z := (l.length : Int)) t72 rfl rfl rfl (.d _ _) (map_len _ _) rfl τ⟩) <| .mv rfl <| .z <| .block ?_
 refine .loop (X := Nat) (fun ζ => .of [(0, .one (.d (.sl false 145 2 (List.map Entry.c (l))))), (1, .one (.d (.fn F_p first_p caps_p))), (7, .one (.d (.v (.int .i64 ((l.length : Int)))))), (8, .one (.d (.v (.int .i64 ((ζ : Int))))))] []) (fun ζ => ζ ≤ l.length ∧ allTo ζ (fun i => !p (l.getD i default)) = true) (fun ζ => l.length - ζ) ?_ ?_
 ·skip
  exact .here 0 (.of (.cons rfl (.cons rfl (.cons rfl (.cons (svI (show (0) = ((0 : Int)) by first | rfl | omega | exact wrap_le (by omega) (by omega) | (rw [wrap_le (by omega) (by omega)]; omega))) .nil)))) .nil) (show 0 ≤ l.length ∧ allTo 0 (fun i => !p (l.getD i default)) = true by exact ⟨by omega, rfl⟩)
 ·rintro j hI
  have hI : j ≤ l.length ∧ allTo j (fun i => !p (l.getD i default)) = true := hI
  refine .seq <| .rs fun k4 => .bi rfl <| .z <| .seq ?_
  refine .cond (t := decide ((j : Int) < (l.length : Int))) rfl (fun c0 => ?_) (fun c0 => ?_)
  ·have c0 := of_decide_eq_true c0
   refine .skip <| .seq <| .block <| .seq <| .rs fun k5 => .mv rfl <| .as rfl <| .z <| .seq ?_
   refine .rs fun k6 => .mv rfl <| .mv rfl <| .mv rfl <| .g (fun _ τ => ⟨_, .indexAddr (.no rfl) rfl (j) t72 rfl t145 rfl rfl rfl (.d _ _) rfl rfl rfl (map_get (by omega)) rfl rfl τ⟩) <| .lda t145 rfl (.d _) rfl <| .g (fun _ τ => ⟨_, .callF (.no rfl) rfl (ds := [.v (.int .i64 ((l.getD j default).line)), .v (.int .i64 ((l.getD j default).pick))]) (h_p (l.getD j default)) rfl rfl rfl rfl (.own [16, 0] .nil) rfl rfl rfl rfl rfl rfl τ⟩) <| .z ?_
   refine .cond (t := p (l.getD j default)) rfl (fun c1 => ?_) (fun c1 => ?_)
   ·have c1 := c1
    refine .seq <| .rs fun k7 => .mv rfl <| .as rfl <| .z <| .ret ?_
    exact fin0 (.inr rfl) (.one (svI (show ((j : Int)) = (idx p l) by exact (idx_found (j := j) (by omega) hI.2 (by simpa using c1)).symm)) .nil) (.dd .nil) rfl
   ·have c1 := c1
    refine .skip <| .rs fun k9 => .bi rfl <| .mv rfl <| .z ?_
    exact .here (j + 1) (.of (.cons rfl (.cons rfl (.cons rfl (.cons (svI (show (IntKind.wrap .i64 ((j : Int) + 1)) = (((j + 1) : Int)) by first | rfl | omega | exact wrap_le (by omega) (by omega) | (rw [wrap_le (by omega) (by omega)]; omega))) .nil)))) .nil) ⟨(show (j + 1) ≤ l.length ∧ allTo (j + 1) (fun i => !p (l.getD i default)) = true by exact ⟨by omega, allTo_step hI.2 (by simpa using c1)⟩), (show l.length - (j + 1) < l.length - j by omega)⟩
  ·have c0 := of_decide_eq_false c0
   refine .exit <| .seq <| .rs fun k10 => .as rfl <| .z <| .ret ?_
   exact fin0 (.inr rfl) (.one (svI (show (-1) = (idx p l) by exact (idx_none (by omega) hI.2).symm)) .nil) (.dd .nil) rfl
theorem c_ContainsFuncY (l : List Entry) (F_p : FuncId) (first_p : List (Bool × List D)) (caps_p : List D) (p : Entry → Bool) (h_p : ∀ (x0 : Entry), FnTrip Tryz.prog F_p first_p caps_p [(true, 2)] (Entry.c x0) [(false, 1)] [.v (.bool (p x0))]) : Trip Tryz.prog 247 [(false, 1), (false, 1)] ([.sl false 145 2 (List.map Entry.c (l))] ++ [.fn F_p first_p caps_p]) [(false, 1)] [.v (.bool (l.any p))] [] := by
 refine Trip.of Tryz.func247 (by decide) (c := _) rfl rfl (shB_ok rfl) (Nat.le_of_ble_eq_true rfl) rfl (AftOk.nil _) <| .sl (t := 0) rfl fun hs1l => .seq <| .rs fun k2 => .as rfl <| .z <| .seq <| .rs fun k3 => .mv rfl ?_
 refine .mv rfl <| .c0 (c_IndexFuncY l F_p first_p caps_p p h_p) rfl (.dd (.dd .nil)) (.own [7, 0] .nil) rfl <| .bi rfl <| .as rfl <| .z <| .ret ?_
 exact fin0 (.inr rfl) (.one (svB (show (decide ((idx p l) ≥ 0)) = (l.any p) by exact idx_any _ _)) .nil) (.dd .nil) rfl
theorem c_areAll1Y (x : Entry) (F_p : FuncId) (first_p : List (Bool × List D)) (caps_p : List D) (p : Entry → Bool) (h_p : ∀ (x0 : Entry), FnTrip Tryz.prog F_p first_p caps_p [(true, 2)] (Entry.c x0) [(false, 1)] [.v (.bool (p x0))]) : Trip Tryz.prog 248 [(true, 2), (false, 1)] (Entry.c x ++ [.pt false [.fn F_p first_p caps_p]]) [(false, 1)] [.v (.bool (!p x))] [] := by
 refine Trip.of Tryz.func248 (by decide) (c := _) rfl rfl (shB_ok rfl) (Nat.le_of_ble_eq_true rfl) rfl (AftOk.nil _) <| .seq <| .rs fun k1 => .g (fun _ τ => ⟨_, .box (.no rfl) rfl rfl rfl rfl rfl τ⟩) <| .as rfl <| .z <| .seq <| .rs fun k2 => .ld t248 rfl (.d _) rfl ?_
 refine .lda t145 rfl (.ptr _ _ _ _ _ rfl) rfl <| .g (fun _ τ => ⟨_, .callF (.no rfl) rfl (ds := [.v (.int .i64 (x.line)), .v (.int .i64 (x.pick))]) (h_p x) rfl rfl rfl rfl (.own [6, 0] .nil) rfl rfl rfl rfl rfl rfl τ⟩) <| .un rfl <| .as rfl <| .z <| .ret ?_
 exact fin0 (.inr rfl) (.one (svB (show (!(p x)) = (!p x) by rfl)) .nil) (.dd .nil) rfl
theorem c_areAllY (l : List Entry) (F_p : FuncId) (first_p : List (Bool × List D)) (caps_p : List D) (p : Entry → Bool) (h_p : ∀ (x0 : Entry), FnTrip Tryz.prog F_p first_p caps_p [(true, 2)] (Entry.c x0) [(false, 1)] [.v (.bool (p x0))]) : Trip Tryz.prog 237 [(false, 1), (false, 1)] ([.sl false 145 2 (List.map Entry.c (l))] ++ [.fn F_p first_p caps_p]) [(false, 1)] [.v (.bool (l.all p))] [] := by
 refine Trip.of Tryz.func237 (by decide) (c := _) rfl rfl (shB_ok rfl) (Nat.le_of_ble_eq_true rfl) rfl (AftOk.nil _) <| .sl (t := 0) rfl fun hs1l => .seq <| .rs fun k2 => .g (fun _ τ => ⟨_, .box (.no rfl) rfl rfl rfl rfl rfl τ⟩) <| .as rfl <| .z <| .seq <| .rs fun k3 => ?_
 refine .mv rfl <| .g (fun _ τ => ⟨_, .makeFunc (.no rfl) rfl rfl rfl rfl rfl τ⟩) <| .g (fun _ τ => ⟨_, .call (.no rfl) rfl [[3]] [([3], (k2, k2, .box [.d (.fn F_p first_p caps_p)]))] (c_ContainsFuncY l 248 [] [.pt false [.fn F_p first_p caps_p]] (fun x0 => !p x0) (fun x0 => c_areAll1Y x0 F_p first_p caps_p p h_p)) rfl rfl rfl rfl rfl (.dd (.cons (Reads.clo0 (.cons (Reads.ptr0 (.head _) (.head _) (.cons (Reads.d _) .nil)) .nil)).gives .nil)) rfl rfl (fun _ => (ownCons (Owned.v _) ownNil)) (.own [7, 0] .nil) (.nil) rfl rfl rfl (AllH.get (.r rfl)) rfl rfl rfl τ⟩) <| .un rfl <| .as rfl <| .z <| .ret ?_
 exact fin0 (.inr rfl) (.one (svB (show (!(l.any (fun x0 => !p x0))) = (l.all p) by exact not_any _ _)) .nil) (.dd .nil) rfl
theorem c_TokenOk (t : List Entry) : Trip Tryz.prog 219 [(false, 1)] ([.sl false 145 2 (List.map Entry.c (t))]) [(false, 1)] [.v (.bool (tokOk t))] [] := by
 refine Trip.of Tryz.func219 (by decide) (c := _) rfl rfl (shB_ok rfl) (Nat.le_of_ble_eq_true rfl) rfl (AftOk.nil _) <| .sl (t := 0) rfl fun hs1l => .seq <| .rs fun k2 => .as rfl <| .z <| .seq ?_
 refine .reg (X := Unit) (fun ζ => .of [(2, .one (.d (.v (.bool ((decide ((t.length : Int) ≤ 3) && t.all (fun x0 => Entry.ok x0)))))))] []) [⟨[0], some 3, [], []⟩, ⟨[3], some 4, [], []⟩, ⟨[4], some 5, [], []⟩, ⟨[5], some 6, [], []⟩, ⟨[6, 0], some 7, [], []⟩, ⟨[6, 7], some 8, [], []⟩, ⟨[6, 8], some 9, [], []⟩, ⟨[9], some 2, [], []⟩] (fun k3 => ?_) ?_
 ·skip
  refine .move (.no rfl) rfl rfl rfl rfl <| .len (.no rfl) rfl (z := (t.length : Int)) t72 rfl rfl rfl (.d _ _) (map_len _ _) rfl <| .bin (.no rfl) rfl rfl rfl rfl rfl rfl <| .moveB (.no rfl) rfl rfl rfl rfl fun b4 g1_3 => ?_
  cases b4
  ·skip
   refine .off rfl rfl rfl rfl rfl rfl rfl <| .off rfl rfl rfl rfl rfl rfl rfl <| .pick (.no rfl) rfl rfl rfl rfl rfl <| .assign (.no rfl) rfl rfl rfl rfl ?_
   exact .fin () (.of (.cons (svB (show (false) = ((decide ((t.length : Int) ≤ 3) && t.all (fun x0 => Entry.ok x0))) by first | (simp only [g1_3, Bool.true_or, Bool.false_or, Bool.true_and, Bool.false_and, Bool.not_true, Bool.not_false]; done) | simp [g1_3])) .nil) .nil)
  ·skip
   refine .move (.on rfl rfl rfl rfl rfl) rfl rfl rfl rfl <| .call (.on rfl rfl rfl rfl rfl) rfl [] [] (c_areAllY t 238 [] [] (fun x0 => Entry.ok x0) (fun x0 => c_entryOk x0)) rfl rfl rfl rfl rfl (.dd (.dd .nil)) rfl rfl (fun h => absurd rfl h) (.own [8, 0] .nil) (.nil) rfl rfl rfl (by simp) rfl rfl rfl <| .pick (.no rfl) rfl rfl rfl rfl rfl <| .assign (.no rfl) rfl rfl rfl rfl ?_
   exact .fin () (.of (.cons (svB (show (t.all (fun x0 => Entry.ok x0)) = ((decide ((t.length : Int) ≤ 3) && t.all (fun x0 => Entry.ok x0))) by first | (simp only [g1_3, Bool.true_or, Bool.false_or, Bool.true_and, Bool.false_and, Bool.not_true, Bool.not_false]; done) | simp [g1_3])) .nil) .nil)
 intro _
 refine .ret ?_
 exact fin0 (.inr rfl) (.one (svB (show ((decide ((t.length : Int) ≤ 3) && t.all (fun x0 => Entry.ok x0))) = (tokOk t) by (unfold tokOk; rw [show decide ((t.length : Int) ≤ 3) = decide (t.length ≤ 3) from decide_eq_decide.2 (by omega)]))) .nil) (.dd .nil) rfl
end Go.Proofs

/- Contracts of the program's functions at this seat, printed by a program of ours and checked by Lean: each under the conditions of its own statement. -/
import Derived.Test.YtfpoggllbhfdcaaGreatDoorF1
set_option linter.all false
set_option linter.unnecessarySimpa false
set_option linter.unusedSectionVars false
set_option linter.unusedSimpArgs false
set_option linter.unusedVariables false
namespace Go.Proofs
open Go Go.Proofs Go.Ev

def i114 : TI := ⟨.fn, 1, 8, [.nilFunc]⟩
theorem t114 : TyOk Tryz.prog 114 i114 := ⟨⟨_, _, _, Tryz.underlying114⟩, by kernel_rfl⟩
theorem z114 : ZOk Tryz.prog 114 i114 := ⟨t114, rfl⟩
theorem c_l3Takes (op : Int) : Trip Tryz.prog 56 [(false, 1)] ([.v (.int .i64 (op))]) [(false, 1)] [.v (.int .i64 (takesN op))] [] := by
 refine Trip.of Tryz.func56 (by decide) (c := _) rfl rfl (Nat.le_of_ble_eq_true rfl) rfl (AftOk.nil _) <| .seq <| .rs fun k1 => .as rfl <| .z <| .seq <| .block <| .seq <| .rs fun k2 => ?_
 refine .mv rfl <| .bi rfl <| .as rfl <| .z ?_
 refine .cond (t := decide (op ≤ 5)) rfl (fun c0 => ?_) (fun c0 => ?_)
 ·have c0 := of_decide_eq_true c0
  refine .seq <| .rs fun k3 => .as rfl <| .z <| .ret ?_
  exact fin0 (.inr rfl) (.one (svI (show (0) = (takesN op) by (unfold takesN; rw [if_pos c0]))) .nil) (.dd .nil) rfl
 ·have c0 := of_decide_eq_false c0
  refine .seq ?_
  refine .reg (X := Unit) (fun ζ => .of [(6, .one (.d (.v (.bool ((decide (op ≤ 7) || op == 19))))))] []) [⟨[0], some 7, [], []⟩, ⟨[7], some 8, [], []⟩, ⟨[8], some 9, [], []⟩, ⟨[9, 0], some 10, [], []⟩, ⟨[9, 10], some 11, [], []⟩, ⟨[9, 11], some 12, [], []⟩, ⟨[12], some 6, [], []⟩] (fun k5 => ?_) ?_
  ·skip
   refine .move (.no rfl) rfl rfl rfl rfl <| .bin (.no rfl) rfl rfl rfl rfl rfl rfl <| .moveB (.no rfl) rfl rfl rfl rfl fun b6 g3_2 => ?_
   cases b6
   ·skip
    refine .move (.on rfl rfl rfl rfl rfl) rfl rfl rfl rfl <| .bin (.on rfl rfl rfl rfl rfl) rfl rfl rfl rfl rfl rfl <| .pick (.no rfl) rfl rfl rfl rfl rfl <| .assign (.no rfl) rfl rfl rfl rfl ?_
    exact .fin () (.of (.cons (svB (show (op == 19) = ((decide (op ≤ 7) || op == 19)) by first | (simp only [g3_2, Bool.true_or, Bool.false_or, Bool.true_and, Bool.false_and, Bool.not_true, Bool.not_false]; done) | (simp [g3_2]; done) | (exfalso; simp_all; done))) .nil) .nil)
   ·skip
    refine .off rfl rfl rfl rfl rfl rfl rfl <| .off rfl rfl rfl rfl rfl rfl rfl <| .pick (.no rfl) rfl rfl rfl rfl rfl <| .assign (.no rfl) rfl rfl rfl rfl ?_
    exact .fin () (.of (.cons (svB (show (true) = ((decide (op ≤ 7) || op == 19)) by first | (simp only [g3_2, Bool.true_or, Bool.false_or, Bool.true_and, Bool.false_and, Bool.not_true, Bool.not_false]; done) | (simp [g3_2]; done) | (exfalso; simp_all; done))) .nil) .nil)
  intro _
  refine .cond (t := (decide (op ≤ 7) || op == 19)) rfl (fun c1 => ?_) (fun c1 => ?_)
  ·have c1 := (oT dT eT) c1
   refine .seq <| .rs fun k7 => .as rfl <| .z <| .ret ?_
   exact fin0 (.inr rfl) (.one (svI (show (1) = (takesN op) by (unfold takesN; rw [if_neg c0, if_pos c1]))) .nil) (.dd .nil) rfl
  ·have c1 := (oF dF eF) c1
   refine .skip <| .seq <| .rs fun k9 => .as rfl <| .z <| .ret ?_
   exact fin0 (.inr rfl) (.one (svI (show (2) = (takesN op) by (unfold takesN; rw [if_neg c0, if_neg (by omega)]))) .nil) (.dd .nil) rfl
theorem c_l3Kinds (op : Int) : Trip Tryz.prog 57 [(false, 1)] ([.v (.int .i64 (op))]) [(false, 1), (false, 1)] [.v (.int .i64 (kdT op)), .v (.int .i64 (kdL op))] [] := by
 refine Trip.of Tryz.func57 (by decide) (c := _) rfl rfl (Nat.le_of_ble_eq_true rfl) rfl (AftOk.nil _) <| .seq <| .rs fun k1 => .as rfl <| .as rfl <| .z <| .seq <| .block <| .seq ?_
 refine .reg (X := Unit) (fun ζ => .of [(0, .one (.d (.v (.int .i64 (op))))), (4, .one (.d (.v (.bool (((op == 3 || op == 4) || op == 5))))))] []) [⟨[0], some 5, [], []⟩, ⟨[5], some 6, [], []⟩, ⟨[6], some 7, [], []⟩, ⟨[7, 0], some 8, [], []⟩, ⟨[7, 8], some 9, [], []⟩, ⟨[7, 9], some 10, [], []⟩, ⟨[10], some 11, [], []⟩, ⟨[11, 0], some 12, [], []⟩, ⟨[11, 12], some 13, [], []⟩, ⟨[11, 13], some 14, [], []⟩, ⟨[14], some 4, [], []⟩] (fun k2 => ?_) ?_
 ·skip
  refine .move (.no rfl) rfl rfl rfl rfl <| .bin (.no rfl) rfl rfl rfl rfl rfl rfl <| .moveB (.no rfl) rfl rfl rfl rfl fun b3 g1_2 => ?_
  cases b3
  ·skip
   refine .move (.on rfl rfl rfl rfl rfl) rfl rfl rfl rfl <| .bin (.on rfl rfl rfl rfl rfl) rfl rfl rfl rfl rfl rfl <| .pick (.no rfl) rfl rfl rfl rfl rfl <| .moveB (.no rfl) rfl rfl rfl rfl fun b4 g1_6 => ?_
   cases b4
   ·skip
    refine .move (.on rfl rfl rfl rfl rfl) rfl rfl rfl rfl <| .bin (.on rfl rfl rfl rfl rfl) rfl rfl rfl rfl rfl rfl <| .pick (.no rfl) rfl rfl rfl rfl rfl <| .assign (.no rfl) rfl rfl rfl rfl ?_
    exact .fin () (.of (.cons rfl (.cons (svB (show (op == 5) = (((op == 3 || op == 4) || op == 5)) by first | (simp only [g1_2, g1_6, Bool.true_or, Bool.false_or, Bool.true_and, Bool.false_and, Bool.not_true, Bool.not_false]; done) | (simp [g1_2, g1_6]; done) | (exfalso; simp_all; done))) .nil)) .nil)
   ·skip
    refine .off rfl rfl rfl rfl rfl rfl rfl <| .off rfl rfl rfl rfl rfl rfl rfl <| .pick (.no rfl) rfl rfl rfl rfl rfl <| .assign (.no rfl) rfl rfl rfl rfl ?_
    exact .fin () (.of (.cons rfl (.cons (svB (show (true) = (((op == 3 || op == 4) || op == 5)) by first | (simp only [g1_2, g1_6, Bool.true_or, Bool.false_or, Bool.true_and, Bool.false_and, Bool.not_true, Bool.not_false]; done) | (simp [g1_2, g1_6]; done) | (exfalso; simp_all; done))) .nil)) .nil)
  ·skip
   refine .off rfl rfl rfl rfl rfl rfl rfl <| .off rfl rfl rfl rfl rfl rfl rfl <| .pick (.no rfl) rfl rfl rfl rfl rfl <| .move (.no rfl) rfl rfl rfl rfl <| .off rfl rfl rfl rfl rfl rfl rfl <| .off rfl rfl rfl rfl rfl rfl rfl <| .pick (.no rfl) rfl rfl rfl rfl rfl <| .assign (.no rfl) rfl rfl rfl rfl ?_
   exact .fin () (.of (.cons rfl (.cons (svB (show (true) = (((op == 3 || op == 4) || op == 5)) by first | (simp only [g1_2, Bool.true_or, Bool.false_or, Bool.true_and, Bool.false_and, Bool.not_true, Bool.not_false]; done) | (simp [g1_2]; done) | (exfalso; simp_all; done))) .nil)) .nil)
 intro _
 refine .cond (t := ((op == 3 || op == 4) || op == 5)) rfl (fun c0 => ?_) (fun c0 => ?_)
 ·have c0 := (oT (oT eT eT) eT) c0
  refine .seq <| .rs fun k5 => .as rfl <| .as rfl <| .z <| .ret ?_
  exact fin0 (.inr rfl) (.one (svI (show (0) = (kdT op) by (first | (unfold kdT; rw [if_pos (by omega)]) | (unfold kdL; rw [if_pos (by omega)])))) (.one (svI (show (2) = (kdL op) by (first | (unfold kdT; rw [if_pos (by omega)]) | (unfold kdL; rw [if_pos (by omega)])))) .nil)) (.dd (.dd .nil)) rfl
 ·have c0 := (oF (oF eF eF) eF) c0
  refine .seq <| .rs fun k8 => .mv rfl <| .bi rfl <| .as rfl <| .z ?_
  refine .cond (t := decide (op ≤ 12)) rfl (fun c1 => ?_) (fun c1 => ?_)
  ·have c1 := of_decide_eq_true c1
   refine .seq <| .rs fun k9 => .as rfl <| .as rfl <| .z <| .ret ?_
   exact fin0 (.inr rfl) (.one (svI (show (1) = (kdT op) by (first | (unfold kdT; rw [if_neg (by omega), if_pos c1]) | (unfold kdL; rw [if_neg (by omega), if_pos c1])))) (.one (svI (show (1) = (kdL op) by (first | (unfold kdT; rw [if_neg (by omega), if_pos c1]) | (unfold kdL; rw [if_neg (by omega), if_pos c1])))) .nil)) (.dd (.dd .nil)) rfl
  ·have c1 := of_decide_eq_false c1
   refine .seq <| .rs fun k12 => .mv rfl <| .bi rfl <| .as rfl <| .z ?_
   refine .cond (t := decide (op ≤ 18)) rfl (fun c2 => ?_) (fun c2 => ?_)
   ·have c2 := of_decide_eq_true c2
    refine .seq <| .rs fun k13 => .as rfl <| .as rfl <| .z <| .ret ?_
    exact fin0 (.inr rfl) (.one (svI (show (1) = (kdT op) by (first | (unfold kdT; rw [if_neg (by omega), if_neg c1, if_pos c2]) | (unfold kdL; rw [if_neg (by omega), if_neg c1, if_pos c2])))) (.one (svI (show (2) = (kdL op) by (first | (unfold kdT; rw [if_neg (by omega), if_neg c1, if_pos c2]) | (unfold kdL; rw [if_neg (by omega), if_neg c1, if_pos c2])))) .nil)) (.dd (.dd .nil)) rfl
   ·have c2 := of_decide_eq_false c2
    refine .skip <| .seq <| .rs fun k16 => .as rfl <| .as rfl <| .z <| .ret ?_
    exact fin0 (.inr rfl) (.one (svI (show (2) = (kdT op) by (first | (unfold kdT; rw [if_neg (by omega), if_neg c1, if_neg c2]) | (unfold kdL; rw [if_neg (by omega), if_neg c1, if_neg c2])))) (.one (svI (show (2) = (kdL op) by (first | (unfold kdT; rw [if_neg (by omega), if_neg c1, if_neg c2]) | (unfold kdL; rw [if_neg (by omega), if_neg c1, if_neg c2])))) .nil)) (.dd (.dd .nil)) rfl
theorem c_l3Tok (d : Decl) (t : Tok) : Trip Tryz.prog 58 [(true, 3), (true, 2)] (Decl.c39 d ++ Tok.c t) [(false, 1)] [.v (.bool (Tok.ok d t))] [] := by
 refine Trip.of Tryz.func58 (by decide) (c := _) rfl rfl (Nat.le_of_ble_eq_true rfl) rfl (AftOk.nil _) <| .sla (t := 0) 0 rfl rfl fun hs1l => .sla (t := 0) 1 rfl rfl fun hs2l => .sla (t := 0) 2 rfl rfl fun hs3l => .seq <| .rs fun k4 => .g (fun _ τ => ⟨_, .box (.no rfl) rfl rfl rfl rfl rfl τ⟩) <| .g (fun _ τ => ⟨_, .box (.no rfl) rfl rfl rfl rfl rfl τ⟩) <| .as rfl ?_
 refine .z <| .seq <| .seq <| .rs fun k5 => .fp t76 t2 rfl <| .ld t2 rfl (.ptr _ _ _ _ _ rfl) rfl <| .z <| .block <| .seq ?_
 refine .rs fun k6 => .bi rfl <| .as rfl <| .z ?_
 refine .cond (t := t.op == 1) rfl (fun c0 => ?_) (fun c0 => ?_)
 ·have c0 := (by simpa using c0 : t.op = 1)
  refine .seq <| .rs fun k7 => .fp t76 t2 rfl <| .ld t2 rfl (.ptr _ _ _ _ _ rfl) rfl <| .c0 (c_l1In t.n 0 999999999999999999) rfl (.dd (.dd (.dd .nil))) (.own [11, 0] .nil) rfl <| .as rfl <| .z <| .ret ?_
  exact fin0 (.inr rfl) (.one (svB (show (inR t.n 0 999999999999999999) = (Tok.ok d t) by (unfold Tok.ok; rw [if_pos c0]))) .nil) (.dd .nil) rfl
 ·have c0 := (by simpa using c0 : ¬ (t.op = 1))
  refine .seq <| .rs fun k9 => .bi rfl <| .as rfl <| .z ?_
  refine .cond (t := t.op == 2) rfl (fun c1 => ?_) (fun c1 => ?_)
  ·have c1 := (by simpa using c1 : t.op = 2)
   refine .seq <| .rs fun k10 => .fp t76 t2 rfl <| .ld t2 rfl (.ptr _ _ _ _ _ rfl) rfl <| .fp t39 t22 rfl <| .ld t22 rfl (.ptr _ _ _ _ _ rfl) rfl <| .g (fun _ τ => ⟨_, .len (.no rfl) rfl (z := (d.vars.length : Int)) t22 rfl rfl rfl (.d _ _) (map_len _ _) rfl τ⟩) <| .g (fun _ τ => ⟨_, .binN (.no rfl) rfl (show IntKind.wrap .i64 ((d.vars.length : Int) - 1) = (d.vars.length : Int) - 1 by (exact wrap_le (by omega) (by omega))) rfl rfl rfl rfl rfl τ⟩) <| .c0 (c_l1In t.n 0 ((d.vars.length : Int) - 1)) rfl (.dd (.dd (.dd .nil))) (.own [20, 0] .nil) rfl ?_
   refine .as rfl <| .z <| .ret ?_
   exact fin0 (.inr rfl) (.one (svB (show (inR t.n 0 ((d.vars.length : Int) - 1)) = (Tok.ok d t) by (unfold Tok.ok; rw [if_neg c0, if_pos c1]))) .nil) (.dd .nil) rfl
  ·have c1 := (by simpa using c1 : ¬ (t.op = 2))
   refine .seq <| .rs fun k12 => .bi rfl <| .as rfl <| .z ?_
   refine .cond (t := t.op == 3) rfl (fun c2 => ?_) (fun c2 => ?_)
   ·have c2 := (by simpa using c2 : t.op = 3)
    refine .seq <| .rs fun k13 => .fp t76 t2 rfl <| .ld t2 rfl (.ptr _ _ _ _ _ rfl) rfl <| .fp t39 t22 rfl <| .ld t22 rfl (.ptr _ _ _ _ _ rfl) rfl <| .g (fun _ τ => ⟨_, .len (.no rfl) rfl (z := (d.flags.length : Int)) t22 rfl rfl rfl (.d _ _) (map_len _ _) rfl τ⟩) <| .g (fun _ τ => ⟨_, .binN (.no rfl) rfl (show IntKind.wrap .i64 ((d.flags.length : Int) - 1) = (d.flags.length : Int) - 1 by (exact wrap_le (by omega) (by omega))) rfl rfl rfl rfl rfl τ⟩) <| .c0 (c_l1In t.n 0 ((d.flags.length : Int) - 1)) rfl (.dd (.dd (.dd .nil))) (.own [29, 0] .nil) rfl ?_
    refine .as rfl <| .z <| .ret ?_
    exact fin0 (.inr rfl) (.one (svB (show (inR t.n 0 ((d.flags.length : Int) - 1)) = (Tok.ok d t) by (unfold Tok.ok; rw [if_neg c0, if_neg c1, if_pos c2]))) .nil) (.dd .nil) rfl
   ·have c2 := (by simpa using c2 : ¬ (t.op = 3))
    refine .seq <| .rs fun k15 => .bi rfl <| .as rfl <| .z ?_
    refine .cond (t := t.op == 6) rfl (fun c3 => ?_) (fun c3 => ?_)
    ·have c3 := (by simpa using c3 : t.op = 6)
     refine .seq <| .rs fun k16 => .fp t76 t2 rfl <| .ld t2 rfl (.ptr _ _ _ _ _ rfl) rfl <| .fp t39 t37 rfl <| .ld t37 rfl (.ptr _ _ _ _ _ rfl) rfl <| .g (fun _ τ => ⟨_, .len (.no rfl) rfl (z := (d.arrays.length : Int)) t37 rfl rfl rfl (.d _ _) (map_len _ _) rfl τ⟩) <| .g (fun _ τ => ⟨_, .binN (.no rfl) rfl (show IntKind.wrap .i64 ((d.arrays.length : Int) - 1) = (d.arrays.length : Int) - 1 by (exact wrap_le (by omega) (by omega))) rfl rfl rfl rfl rfl τ⟩) <| .c0 (c_l1In t.n 0 ((d.arrays.length : Int) - 1)) rfl (.dd (.dd (.dd .nil))) (.own [38, 0] .nil) rfl ?_
     refine .as rfl <| .z <| .ret ?_
     exact fin0 (.inr rfl) (.one (svB (show (inR t.n 0 ((d.arrays.length : Int) - 1)) = (Tok.ok d t) by (unfold Tok.ok; rw [if_neg c0, if_neg c1, if_neg c2, if_pos c3]))) .nil) (.dd .nil) rfl
    ·have c3 := (by simpa using c3 : ¬ (t.op = 6))
     refine .skip <| .seq ?_
     refine .reg (X := Unit) (fun ζ => .of [(4, .one (.d (.v (.bool ((inR t.op 4 21 && t.n == 0))))))] []) [⟨[3], some 39, [], []⟩, ⟨[39], some 40, [[3]], []⟩, ⟨[40], some 41, [], []⟩, ⟨[41], some 42, [], []⟩, ⟨[42, 3], some 43, [], []⟩, ⟨[42, 43], some 44, [[3]], []⟩, ⟨[42, 44], some 45, [], []⟩, ⟨[42, 45], some 46, [], []⟩, ⟨[46], some 4, [], []⟩] (fun k18 => ?_) ?_
     ·skip
      refine .fieldAddrP (.no rfl) rfl t76 rfl rfl t2 rfl rfl rfl rfl <| .load (.no rfl) rfl t2 rfl rfl (.ptr _ _ _ _ _ rfl) rfl rfl rfl rfl <| .call (.no rfl) rfl [] [] (c_l1In t.op 4 21) rfl rfl rfl rfl rfl (.dd (.dd (.dd .nil))) rfl rfl (fun h => absurd rfl h) (.own [41, 0] .nil) (.nil) rfl rfl rfl (by simp) rfl rfl rfl <| .moveB (.no rfl) rfl rfl rfl rfl fun b19 g10_3 => ?_
      cases b19
      ·skip
       refine .off rfl rfl rfl rfl rfl rfl rfl <| .off rfl rfl rfl rfl rfl rfl rfl <| .off rfl rfl rfl rfl rfl rfl rfl <| .pick (.no rfl) rfl rfl rfl rfl rfl <| .assign (.no rfl) rfl rfl rfl rfl ?_
       exact .fin () (.of (.cons (svB (show (false) = ((inR t.op 4 21 && t.n == 0)) by first | (simp only [g10_3, Bool.true_or, Bool.false_or, Bool.true_and, Bool.false_and, Bool.not_true, Bool.not_false]; done) | (simp [g10_3]; done) | (exfalso; simp_all; done))) .nil) .nil)
      ·skip
       refine .fieldAddrP (.on rfl rfl rfl rfl rfl) rfl t76 rfl rfl t2 rfl rfl rfl rfl <| .load (.on rfl rfl rfl rfl rfl) rfl t2 rfl rfl (.ptr _ _ _ _ _ rfl) rfl rfl rfl rfl <| .bin (.on rfl rfl rfl rfl rfl) rfl rfl rfl rfl rfl rfl <| .pick (.no rfl) rfl rfl rfl rfl rfl <| .assign (.no rfl) rfl rfl rfl rfl ?_
       exact .fin () (.of (.cons (svB (show (t.n == 0) = ((inR t.op 4 21 && t.n == 0)) by first | (simp only [g10_3, Bool.true_or, Bool.false_or, Bool.true_and, Bool.false_and, Bool.not_true, Bool.not_false]; done) | (simp [g10_3]; done) | (exfalso; simp_all; done))) .nil) .nil)
     intro _
     refine .ret ?_
     exact fin0 (.inr rfl) (.one (svB (show ((inR t.op 4 21 && t.n == 0)) = (Tok.ok d t) by (unfold Tok.ok; rw [if_neg c0, if_neg c1, if_neg c2, if_neg c3]))) .nil) (.dd .nil) rfl
theorem c_sExprOk (d : Decl) (l : List Tok) (hs : ∀ x ∈ Decl.names d, x.size ≤ 9223372036854775807) (hd : d.vars.length ≤ 1048576 ∧ d.flags.length ≤ 1048576 ∧ d.arrays.length ≤ 1048576) : Trip Tryz.prog 28 [(true, 3), (false, 1)] (Decl.c39 d ++ [.sl false 76 2 (List.map Tok.c (l))]) [(false, 1)] [.v (.int .i64 (Expr.kindIn d l))] [] := by
 refine Trip.of Tryz.func28 (by decide) (c := _) rfl rfl (Nat.le_of_ble_eq_true rfl) rfl (AftOk.nil _) <| .sla (t := 0) 0 rfl rfl fun hs1l => .sla (t := 0) 1 rfl rfl fun hs2l => .sla (t := 0) 2 rfl rfl fun hs3l => .sl (t := 1) rfl fun hs4l => .seq <| .rs fun k5 => .g (fun _ τ => ⟨_, .box (.no rfl) rfl rfl rfl rfl rfl τ⟩) <| .as rfl ?_
 refine .z <| .seq <| .seq ?_
 refine .reg (X := Unit) (fun ζ => .of [(1, .one (.d (.sl false 76 2 (List.map Tok.c (l))))), (2, .one (.ptr [2] (k5) 0)), (18, .one (.d (.v (.bool ((!(Decl.ok d) || decide ((l.length : Int) > 40)))))))] [([2], (k5, k5, .box [.d (.sl false 9 1 (List.map strc (d.vars))), .d (.sl false 9 1 (List.map strc (d.flags))), .d (.sl false 104 2 (List.map Arr.c (d.arrays)))]))]) [⟨[2], some 11, [[2]], []⟩, ⟨[11], some 12, [], []⟩, ⟨[12], some 13, [], []⟩, ⟨[13], some 14, [], []⟩, ⟨[14, 1], some 15, [], []⟩, ⟨[14, 15], some 16, [], []⟩, ⟨[14, 16], some 17, [], []⟩, ⟨[14, 17], some 18, [], []⟩] (fun k6 => ?_) ?_
 ·skip
  refine .load (.no rfl) rfl t39 rfl rfl (.ptr _ _ _ _ _ rfl) rfl rfl rfl rfl <| .call (.no rfl) rfl [] [] (c_sDeclOk d (by assumption) (by assumption)) rfl rfl rfl rfl rfl (.dd (.dd (.dd .nil))) rfl rfl (fun h => absurd rfl h) (.own [12, 0] .nil) (.nil) rfl rfl rfl (by simp) rfl rfl rfl <| .un (.no rfl) rfl rfl rfl rfl rfl <| .moveB (.no rfl) rfl rfl rfl rfl fun b7 g1_3 => ?_
  cases b7
  ·skip
   refine .move (.on rfl rfl rfl rfl rfl) rfl rfl rfl rfl <| .len (.on rfl rfl rfl rfl rfl) rfl (z := (l.length : Int)) t41 rfl rfl rfl (.d _ _) (map_len _ _) rfl <| .bin (.on rfl rfl rfl rfl rfl) rfl rfl rfl rfl rfl rfl <| .pick (.no rfl) rfl rfl rfl rfl rfl ?_
   exact .fin () (.of (.cons rfl (.cons rfl (.cons (svB (show (decide ((l.length : Int) > 40)) = ((!(Decl.ok d) || decide ((l.length : Int) > 40))) by first | (simp only [g1_3, Bool.true_or, Bool.false_or, Bool.true_and, Bool.false_and, Bool.not_true, Bool.not_false]; done) | (simp [g1_3]; done) | (exfalso; simp_all; done))) .nil))) (.r rfl))
  ·skip
   refine .off rfl rfl rfl rfl rfl rfl rfl <| .off rfl rfl rfl rfl rfl rfl rfl <| .off rfl rfl rfl rfl rfl rfl rfl <| .pick (.no rfl) rfl rfl rfl rfl rfl ?_
   exact .fin () (.of (.cons rfl (.cons rfl (.cons (svB (show (true) = ((!(Decl.ok d) || decide ((l.length : Int) > 40))) by first | (simp only [g1_3, Bool.true_or, Bool.false_or, Bool.true_and, Bool.false_and, Bool.not_true, Bool.not_false]; done) | (simp [g1_3]; done) | (exfalso; simp_all; done))) .nil))) (.r rfl))
 intro _
 refine .cond (t := (!(Decl.ok d) || decide ((l.length : Int) > 40))) rfl (fun c0 => ?_) (fun c0 => ?_)
 ·have c0 := (oT (nT id) dT) c0
  have hz : Expr.kindIn d l = 0 := by unfold Expr.kindIn; rcases c0 with h | h <;> first | (rw [h]; rfl) | (rw [kind_long (by omega)]; simp)
  refine .seq <| .rs fun k8 => .as rfl <| .z <| .ret ?_
  exact fin0 (.inr rfl) (.one (svI (show (0) = (Expr.kindIn d l) by (exact hz.symm))) .nil) (.dd .nil) rfl
 ·have c0 := (oF (nF id) dF) c0
  have hz : Expr.kindIn d l = Expr.kind d l := by unfold Expr.kindIn; rw [if_pos c0.1]
  refine .skip <| .seq <| .rs fun k10 => .g (fun _ τ => ⟨_, .buildSlice (.no rfl) rfl (els := []) t27 rfl z2 rfl rfl rfl rfl rfl rfl rfl rfl (by simp [i2]) .nil rfl rfl rfl τ⟩) <| .as rfl <| .z <| .seq <| .seq <| .rs fun k11 => ?_
  refine .as rfl <| .z <| .block ?_
  refine .loop (X := Nat × List Int × Nat × Nat) (fun ζ => .of [(1, .one (.d (.sl false 76 2 (List.map Tok.c (l))))), (2, .one (.ptr [2] (k5) 0)), (5, .one (.ref [19] (ζ.2.2.1))), (6, .one (.d (.v (.int .i64 ((ζ.1 : Int))))))] [([2], (k5, k5, .box [.d (.sl false 9 1 (List.map strc (d.vars))), .d (.sl false 9 1 (List.map strc (d.flags))), .d (.sl false 104 2 (List.map Arr.c (d.arrays)))])), ([19], (ζ.2.2.1, ζ.2.2.2, .row 2 1 (List.map i64c (ζ.2.1))))]) (fun ζ => ζ.1 ≤ l.length ∧ kdS d l ζ.1 = some ζ.2.1) (fun ζ => l.length - ζ.1) ?_ ?_
  ·skip
   exact .here (0, [], k10, k10) (.of (.cons rfl (.cons rfl (.cons rfl (.cons (svI (show (0) = ((0 : Int)) by first | rfl | omega | exact wrap_le (by omega) (by omega) | (rw [wrap_le (by omega) (by omega)]; omega))) .nil)))) (.cons rfl (.cons (rowE (show [] = List.map i64c ([]) by first | with_reducible rfl | rfl | skip)) .nil))) (show 0 ≤ l.length ∧ kdS d l 0 = some [] by exact ⟨by omega, rfl⟩)
  ·rintro ⟨j, p, q12, q13⟩ hI
   have hI : j ≤ l.length ∧ kdS d l j = some p := hI
   have hp9 := kdS_len hI.2
   have ht9 := takesN_bnd (l.getD j default).op
   dsimp only
   refine .seq <| .seq <| .rs fun k14 => .mv rfl <| .mv rfl <| .g (fun _ τ => ⟨_, .len (.no rfl) rfl (z := (l.length : Int)) t41 rfl rfl rfl (.d _ _) (map_len _ _) rfl τ⟩) <| .bi rfl <| .z ?_
   refine .cond (t := decide ((j : Int) < (l.length : Int))) rfl (fun c1 => ?_) (fun c1 => ?_)
   ·have c1 := of_decide_eq_true c1
    refine .skip <| .seq <| .block <| .seq <| .rs fun k15 => .mv rfl <| .mv rfl <| .g (fun _ τ => ⟨_, .indexAddr (.no rfl) rfl (j) t41 rfl t76 rfl rfl rfl (.d _ _) rfl rfl rfl (map_get (by first | omega | (have h9 := hI; omega))) rfl rfl τ⟩) <| .g (fun _ τ => ⟨_, .fieldAddr (.no rfl) rfl t76 rfl rfl t2 rfl rfl rfl rfl [] (by simp) (by intro _ _ _ h; cases h) rfl rfl τ⟩) ?_
    refine .ld t2 rfl (.d _) rfl <| .c0 (c_l3Takes ((l.getD j default).op)) rfl (.dd .nil) (.own [31, 0] .nil) rfl <| .as rfl <| .z <| .seq <| .rs fun k16 => .mv rfl <| .mv rfl <| .g (fun _ τ => ⟨_, .indexAddr (.no rfl) rfl (j) t41 rfl t76 rfl rfl rfl (.d _ _) rfl rfl rfl (map_get (by first | omega | (have h9 := hI; omega))) rfl rfl τ⟩) ?_
    refine .g (fun _ τ => ⟨_, .fieldAddr (.no rfl) rfl t76 rfl rfl t2 rfl rfl rfl rfl [] (by simp) (by intro _ _ _ h; cases h) rfl rfl τ⟩) <| .ld t2 rfl (.d _) rfl <| .c0 (c_l3Kinds ((l.getD j default).op)) rfl (.dd .nil) (.own [38, 0] (.own [38, 1] .nil)) rfl <| .g (fun _ τ => ⟨_, .move (.no rfl) rfl rfl rfl rfl τ⟩) <| .g (fun _ τ => ⟨_, .extract (.no rfl) rfl rfl rfl rfl rfl τ⟩) <| .g (fun _ τ => ⟨_, .extract (.no rfl) rfl rfl rfl rfl rfl τ⟩) <| .as rfl <| .as rfl <| .z ?_
    refine .seq <| .seq ?_
    refine .regD (X := Unit) (by kernel_rfl) (fun ζ => .of [(1, .one (.d (.sl false 76 2 (List.map Tok.c (l))))), (2, .one (.ptr [2] (k5) 0)), (5, .one (.ref [19] (q12))), (6, .one (.d (.v (.int .i64 ((j : Int)))))), (7, .one (.d (.v (.int .i64 (takesN ((l.getD j default).op)))))), (8, .one (.d (.v (.int .i64 (kdT ((l.getD j default).op)))))), (9, .one (.d (.v (.int .i64 (kdL ((l.getD j default).op)))))), (53, .one (.d (.v (.bool ((!(Tok.ok d (l.getD j default)) || decide ((p.length : Int) < (takesN ((l.getD j default).op)))))))))] [([2], (k5, k5, .box [.d (.sl false 9 1 (List.map strc (d.vars))), .d (.sl false 9 1 (List.map strc (d.flags))), .d (.sl false 104 2 (List.map Arr.c (d.arrays)))])), ([19], (q12, q13, .row 2 1 (List.map i64c (p))))]) [⟨[2], some 41, [[2]], []⟩, ⟨[1], some 42, [], []⟩, ⟨[6], some 43, [], []⟩, ⟨[42, 43], some 44, [], []⟩, ⟨[44], some 45, [], []⟩, ⟨[41, 45], some 46, [], []⟩, ⟨[46], some 47, [], []⟩, ⟨[47], some 48, [], []⟩, ⟨[48, 5], some 49, [], []⟩, ⟨[48, 49], some 50, [[19]], []⟩, ⟨[48, 7], some 51, [], []⟩, ⟨[48, 50, 51], some 52, [], []⟩, ⟨[48, 52], some 53, [], []⟩] (by kernel_rfl) (fun k17 => ?_) ?_
    ·skip
     refine .load (.no rfl) rfl t39 rfl rfl (.ptr _ _ _ _ _ rfl) rfl rfl rfl rfl <| .move (.no rfl) rfl rfl rfl rfl <| .move (.no rfl) rfl rfl rfl rfl <| .indexAddr (.no rfl) rfl (j) t41 rfl t76 rfl rfl rfl (.d _ _) rfl rfl rfl (map_get (by first | omega | (have h9 := hI; omega))) rfl rfl <| .load (.no rfl) rfl t76 rfl rfl (.d _) rfl rfl rfl rfl <| .call (.no rfl) rfl [] [] (c_l3Tok d (l.getD j default)) rfl rfl rfl rfl rfl (.dd (.dd (.dd (.dd (.dd .nil))))) rfl rfl (fun h => absurd rfl h) (.own [46, 0] .nil) (.nil) rfl rfl rfl (by simp) rfl rfl rfl <| .un (.no rfl) rfl rfl rfl rfl rfl <| .moveB (.no rfl) rfl rfl rfl rfl fun b18 g9_7 => ?_
     cases b18
     ·skip
      refine .move (.on rfl rfl rfl rfl rfl) rfl rfl rfl rfl <| .len (.on rfl rfl rfl rfl rfl) rfl (z := (p.length : Int)) t27 rfl rfl rfl (.ref _ _ _ _ _ rfl) (map_len _ _) rfl <| .move (.on rfl rfl rfl rfl rfl) rfl rfl rfl rfl <| .bin (.on rfl rfl rfl rfl rfl) rfl rfl rfl rfl rfl rfl <| .pick (.no rfl) rfl rfl rfl rfl rfl ?_
      exact .fin () (.of (.cons rfl (.cons rfl (.cons rfl (.cons rfl (.cons rfl (.cons rfl (.cons rfl (.cons (svB (show (decide ((p.length : Int) < (takesN ((l.getD j default).op)))) = ((!(Tok.ok d (l.getD j default)) || decide ((p.length : Int) < (takesN ((l.getD j default).op))))) by first | (simp only [g9_7, Bool.true_or, Bool.false_or, Bool.true_and, Bool.false_and, Bool.not_true, Bool.not_false]; done) | (simp [g9_7]; done) | (exfalso; simp_all; done))) .nil)))))))) (.r rfl))
     ·skip
      refine .off rfl rfl rfl rfl rfl rfl rfl <| .off rfl rfl rfl rfl rfl rfl rfl <| .off rfl rfl rfl rfl rfl rfl rfl <| .off rfl rfl rfl rfl rfl rfl rfl <| .pick (.no rfl) rfl rfl rfl rfl rfl ?_
      exact .fin () (.of (.cons rfl (.cons rfl (.cons rfl (.cons rfl (.cons rfl (.cons rfl (.cons rfl (.cons (svB (show (true) = ((!(Tok.ok d (l.getD j default)) || decide ((p.length : Int) < (takesN ((l.getD j default).op))))) by first | (simp only [g9_7, Bool.true_or, Bool.false_or, Bool.true_and, Bool.false_and, Bool.not_true, Bool.not_false]; done) | (simp [g9_7]; done) | (exfalso; simp_all; done))) .nil)))))))) (.r rfl))
    intro _
    refine .cond (t := (!(Tok.ok d (l.getD j default)) || decide ((p.length : Int) < (takesN ((l.getD j default).op))))) rfl (fun c2 => ?_) (fun c2 => ?_)
    ·have c2 := (oT (nT id) dT) c2
     have hb : kdS d l (j + 1) = none := by rcases c2 with h | h; exact kdS_bad hI.2 h; by_cases ho : Tok.ok d (l.getD j default) = true; exact (kdS_go hI.2 ho).trans (kst_less (Tok.ok_op ho) h); exact kdS_bad hI.2 (by simpa using ho)
     refine .seq <| .rs fun k19 => .as rfl <| .z <| .ret ?_
     exact fin0 (.inr rfl) (.one (svI (show (0) = (Expr.kindIn d l) by (rw [hz, kind_none (by omega) hb]))) .nil) (.dd .nil) rfl
    ·have c2 := (oF (nF id) dF) c2
     have ho := Tok.ok_op c2.1
     refine .skip <| .seq <| .seq <| .rs fun k21 => .mv rfl <| .g (fun _ τ => ⟨_, .len (.no rfl) rfl (z := (p.length : Int)) t27 rfl rfl rfl (.ref _ _ _ _ _ rfl) (map_len _ _) rfl τ⟩) <| .mv rfl <| .g (fun _ τ => ⟨_, .binN (.no rfl) rfl (show IntKind.wrap .i64 ((p.length : Int) - (takesN ((l.getD j default).op))) = (p.length : Int) - takesN (l.getD j default).op by (exact wrap_le (by omega) (by omega))) rfl rfl rfl rfl rfl τ⟩) <| .as rfl ?_
     refine .z <| .block ?_
     refine .loop (X := Nat) (fun ζ => .of [(1, .one (.d (.sl false 76 2 (List.map Tok.c (l))))), (2, .one (.ptr [2] (k5) 0)), (5, .one (.ref [19] (q12))), (6, .one (.d (.v (.int .i64 ((j : Int)))))), (7, .one (.d (.v (.int .i64 (takesN ((l.getD j default).op)))))), (8, .one (.d (.v (.int .i64 (kdT ((l.getD j default).op)))))), (9, .one (.d (.v (.int .i64 (kdL ((l.getD j default).op)))))), (10, .one (.d (.v (.int .i64 ((p.length : Int) - takesN (l.getD j default).op + (ζ : Int))))))] [([2], (k5, k5, .box [.d (.sl false 9 1 (List.map strc (d.vars))), .d (.sl false 9 1 (List.map strc (d.flags))), .d (.sl false 104 2 (List.map Arr.c (d.arrays)))])), ([19], (q12, q13, .row 2 1 (List.map i64c (p))))]) (fun ζ => (ζ : Int) ≤ takesN (l.getD j default).op ∧ (∀ i : Nat, (p.length : Int) - takesN (l.getD j default).op ≤ (i : Int) → (i : Int) < (p.length : Int) - takesN (l.getD j default).op + (ζ : Int) → p.getD i default = kdT (l.getD j default).op)) (fun ζ => 2 - ζ) ?_ ?_
     ·skip
      exact .here 0 (.of (.cons rfl (.cons rfl (.cons rfl (.cons rfl (.cons rfl (.cons rfl (.cons rfl (.cons (svI (show ((p.length : Int) - takesN (l.getD j default).op) = ((p.length : Int) - takesN (l.getD j default).op + (0 : Int)) by first | rfl | omega | exact wrap_le (by omega) (by omega) | (rw [wrap_le (by omega) (by omega)]; omega))) .nil)))))))) (.r rfl)) (show (0 : Int) ≤ takesN (l.getD j default).op ∧ (∀ i : Nat, (p.length : Int) - takesN (l.getD j default).op ≤ (i : Int) → (i : Int) < (p.length : Int) - takesN (l.getD j default).op + (0 : Int) → p.getD i default = kdT (l.getD j default).op) by exact ⟨by omega, fun i h1 h2 => by omega⟩)
     ·rintro u hI
      have hI : (u : Int) ≤ takesN (l.getD j default).op ∧ (∀ i : Nat, (p.length : Int) - takesN (l.getD j default).op ≤ (i : Int) → (i : Int) < (p.length : Int) - takesN (l.getD j default).op + (u : Int) → p.getD i default = kdT (l.getD j default).op) := hI
      have hI1 := ‹j ≤ l.length ∧ _›
      refine .seq <| .seq <| .rs fun k22 => .mv rfl <| .mv rfl <| .g (fun _ τ => ⟨_, .len (.no rfl) rfl (z := (p.length : Int)) t27 rfl rfl rfl (.ref _ _ _ _ _ rfl) (map_len _ _) rfl τ⟩) <| .bi rfl <| .z ?_
      refine .cond (t := decide (((p.length : Int) - takesN (l.getD j default).op + (u : Int)) < (p.length : Int))) rfl (fun c3 => ?_) (fun c3 => ?_)
      ·have c3 := of_decide_eq_true c3
       refine .skip <| .seq <| .block <| .seq <| .rs fun k23 => .mv rfl <| .mv rfl <| .g (fun _ τ => ⟨_, .indexAddr (.no rfl) rfl (((p.length : Int) - takesN (l.getD j default).op + (u : Int)).toNat) t27 rfl t2 rfl rfl rfl (.ref _ _ _ _ _ rfl) rfl rfl (by omega) (map_get (by first | omega | (have h9 := hI; omega))) rfl rfl τ⟩) <| .ld t2 rfl (.eptr _ _ _ _ _ _ _ _ _ rfl (map_get (by first | omega | (have h9 := hI; omega)))) rfl ?_
       refine .mv rfl <| .bi rfl <| .z ?_
       refine .cond (t := (p.getD (((p.length : Int) - takesN (l.getD j default).op + (u : Int)).toNat) default) != (kdT ((l.getD j default).op))) rfl (fun c4 => ?_) (fun c4 => ?_)
       ·have c4 := (by simpa using c4 : ¬ ((p.getD (((p.length : Int) - takesN (l.getD j default).op + (u : Int)).toNat) default) = (kdT ((l.getD j default).op))))
        have hb : kdS d l (j + 1) = none := (kdS_go hI1.2 c2.1).trans (kst_wrong ho c2.2 (by omega) (by omega) c4)
        refine .seq <| .rs fun k24 => .as rfl <| .z <| .ret ?_
        exact fin0 (.inr rfl) (.one (svI (show (0) = (Expr.kindIn d l) by (rw [hz, kind_none (by omega) hb]))) .nil) (.dd .nil) rfl
       ·have c4 := (by simpa using c4 : (p.getD (((p.length : Int) - takesN (l.getD j default).op + (u : Int)).toNat) default) = (kdT ((l.getD j default).op)))
        refine .skip <| .rs fun k26 => .mv rfl <| .bi rfl <| .as rfl <| .z ?_
        exact .here (u + 1) (.of (.cons rfl (.cons rfl (.cons rfl (.cons rfl (.cons rfl (.cons rfl (.cons rfl (.cons (svI (show (IntKind.wrap .i64 (((p.length : Int) - takesN (l.getD j default).op + (u : Int)) + 1)) = ((p.length : Int) - takesN (l.getD j default).op + ((u + 1) : Int)) by first | rfl | omega | exact wrap_le (by omega) (by omega) | (rw [wrap_le (by omega) (by omega)]; omega))) .nil)))))))) (.r rfl)) ⟨(show ((u + 1) : Int) ≤ takesN (l.getD j default).op ∧ (∀ i : Nat, (p.length : Int) - takesN (l.getD j default).op ≤ (i : Int) → (i : Int) < (p.length : Int) - takesN (l.getD j default).op + ((u + 1) : Int) → p.getD i default = kdT (l.getD j default).op) by exact ⟨by omega, kd_next hI.2 c4⟩), (show 2 - (u + 1) < 2 - u by omega)⟩
      ·have c3 := of_decide_eq_false c3
       refine .exit <| .rs fun k27 => .mv rfl <| .mv rfl <| .g (fun _ τ => ⟨_, .len (.no rfl) rfl (z := (p.length : Int)) t27 rfl rfl rfl (.ref _ _ _ _ _ rfl) (map_len _ _) rfl τ⟩) <| .mv rfl <| .g (fun _ τ => ⟨_, .binN (.no rfl) rfl (show IntKind.wrap .i64 ((p.length : Int) - (takesN ((l.getD j default).op))) = (p.length : Int) - takesN (l.getD j default).op by (exact wrap_le (by omega) (by omega))) rfl rfl rfl rfl rfl τ⟩) <| .g (fun _ τ => ⟨_, .trim (.no rfl) rfl (hv := ((p.length : Int) - takesN (l.getD j default).op).toNat) (els' := List.map i64c (p.take (((p.length : Int) - takesN (l.getD j default).op).toNat))) t27 rfl t2 rfl rfl rfl rfl (by exact ⟨_, nat_iv (a := (p.length : Int) - takesN (l.getD j default).op) (by omega)⟩) (le_map (by omega)) (by rw [List.map_take]) rfl τ⟩) <| .mv rfl ?_
       refine .g (fun _ τ => ⟨_, .buildSlice (.no rfl) rfl (els := [[.v (.int .i64 (kdL ((l.getD j default).op)))]]) t27 rfl z2 rfl rfl rfl rfl rfl rfl rfl rfl (by simp [i2]) (.cons _ _ _ _ _ _ (.d _) .nil) rfl rfl rfl τ⟩) <| .g (fun _ τ => ⟨_, .append (.no rfl) rfl (l3 := List.map i64c (p.take (((p.length : Int) - takesN (l.getD j default).op).toNat) ++ [kdL ((l.getD j default).op)])) t27 rfl z2 rfl rfl rfl rfl rfl rfl rfl rfl (.ref _ _ _ _ rfl) (.take _ _ _ _ _ rfl) rfl (by first | (simp [i2]; omega) | (simp [i3]; omega)) (map_snoc _ _ _) rfl rfl τ⟩) <| .as rfl <| .z <| .rs fun k28 => .mv rfl <| .bi rfl <| .as rfl <| .z ?_
       exact .here ((j + 1), (p.take ((p.length : Int) - takesN (l.getD j default).op).toNat ++ [kdL (l.getD j default).op]), (k27 + 1 + 1 + 1 + 1 + 1 + 1 + 1 + 1), (k27 + 1 + 1 + 1 + 1 + 1 + 1 + 1 + 1)) (.of (.cons rfl (.cons rfl (.cons (by show SV.one (.ref [19] (k27 + 1 + 1 + 1 + 1 + 1 + 1 + 1 + 1)) = SV.one (.ref [19] ((k27 + 1 + 1 + 1 + 1 + 1 + 1 + 1 + 1))); first | rfl | simp_all) (.cons (svI (show (IntKind.wrap .i64 ((j : Int) + 1)) = (((j + 1) : Int)) by first | rfl | omega | exact wrap_le (by omega) (by omega) | (rw [wrap_le (by omega) (by omega)]; omega))) .nil)))) (.cons rfl (.cons (rowE (show List.map i64c (p.take (((p.length : Int) - takesN (l.getD j default).op).toNat) ++ [kdL ((l.getD j default).op)]) = List.map i64c ((p.take ((p.length : Int) - takesN (l.getD j default).op).toNat ++ [kdL (l.getD j default).op])) by first | with_reducible rfl | rfl | skip)) .nil))) ⟨(show (j + 1) ≤ l.length ∧ kdS d l (j + 1) = some (p.take ((p.length : Int) - takesN (l.getD j default).op).toNat ++ [kdL (l.getD j default).op]) by exact ⟨by omega, kd_each hI1.2 c2 hI.2 (by omega)⟩), (show l.length - (j + 1) < l.length - j by omega)⟩
   ·have c1 := of_decide_eq_false c1
    refine .exit <| .seq <| .seq <| .rs fun k29 => .mv rfl <| .g (fun _ τ => ⟨_, .len (.no rfl) rfl (z := (p.length : Int)) t27 rfl rfl rfl (.ref _ _ _ _ _ rfl) (map_len _ _) rfl τ⟩) <| .bi rfl <| .z ?_
    refine .cond (t := (p.length : Int) != 1) rfl (fun c5 => ?_) (fun c5 => ?_)
    ·have c5 := (by simpa using c5 : ¬ ((p.length : Int) = 1))
     refine .seq <| .rs fun k30 => .as rfl <| .z <| .ret ?_
     exact fin0 (.inr rfl) (.one (svI (show (0) = (Expr.kindIn d l) by (rw [hz, kind_many (by omega) hI.2 (by omega)]))) .nil) (.dd .nil) rfl
    ·have c5 := (by simpa using c5 : (p.length : Int) = 1)
     refine .skip <| .seq <| .rs fun k32 => .mv rfl <| .g (fun _ τ => ⟨_, .indexAddr (.no rfl) rfl (0) t27 rfl t2 rfl rfl rfl (.ref _ _ _ _ _ rfl) rfl rfl rfl (map_get (by first | omega | (have h9 := hI; omega))) rfl rfl τ⟩) <| .ld t2 rfl (.eptr _ _ _ _ _ _ _ _ _ rfl (map_get (by first | omega | (have h9 := hI; omega)))) rfl <| .as rfl <| .z <| .ret ?_
     exact fin0 (.inr rfl) (.one (svI (show (p.getD 0 default) = (Expr.kindIn d l) by (rw [hz, kind_one (by omega) (by omega) hI.2 (by omega)]))) .nil) (.dd .nil) rfl
theorem c_takes (op : Int) : Trip Tryz.prog 67 [(false, 1)] ([.v (.int .i64 (op))]) [(false, 1)] [.sl false 2 1 (List.map i64c (takesL op))] [] := by
 refine Trip.of Tryz.func67 (by decide) (c := _) rfl rfl (Nat.le_of_ble_eq_true rfl) rfl (AftOk.nil _) <| .seq <| .rs fun k1 => .as rfl <| .z <| .seq <| .block <| .seq ?_
 refine .reg (X := Unit) (fun ζ => .of [(0, .one (.d (.v (.int .i64 (op))))), (3, .one (.d (.v (.bool ((op == 6 || op == 7))))))] []) [⟨[0], some 4, [], []⟩, ⟨[4], some 5, [], []⟩, ⟨[5], some 6, [], []⟩, ⟨[6, 0], some 7, [], []⟩, ⟨[6, 7], some 8, [], []⟩, ⟨[6, 8], some 9, [], []⟩, ⟨[9], some 3, [], []⟩] (fun k2 => ?_) ?_
 ·skip
  refine .move (.no rfl) rfl rfl rfl rfl <| .bin (.no rfl) rfl rfl rfl rfl rfl rfl <| .moveB (.no rfl) rfl rfl rfl rfl fun b3 g1_2 => ?_
  cases b3
  ·skip
   refine .move (.on rfl rfl rfl rfl rfl) rfl rfl rfl rfl <| .bin (.on rfl rfl rfl rfl rfl) rfl rfl rfl rfl rfl rfl <| .pick (.no rfl) rfl rfl rfl rfl rfl <| .assign (.no rfl) rfl rfl rfl rfl ?_
   exact .fin () (.of (.cons rfl (.cons (svB (show (op == 7) = ((op == 6 || op == 7)) by first | (simp only [g1_2, Bool.true_or, Bool.false_or, Bool.true_and, Bool.false_and, Bool.not_true, Bool.not_false]; done) | (simp [g1_2]; done) | (exfalso; simp_all; done))) .nil)) .nil)
  ·skip
   refine .off rfl rfl rfl rfl rfl rfl rfl <| .off rfl rfl rfl rfl rfl rfl rfl <| .pick (.no rfl) rfl rfl rfl rfl rfl <| .assign (.no rfl) rfl rfl rfl rfl ?_
   exact .fin () (.of (.cons rfl (.cons (svB (show (true) = ((op == 6 || op == 7)) by first | (simp only [g1_2, Bool.true_or, Bool.false_or, Bool.true_and, Bool.false_and, Bool.not_true, Bool.not_false]; done) | (simp [g1_2]; done) | (exfalso; simp_all; done))) .nil)) .nil)
 intro _
 refine .cond (t := (op == 6 || op == 7)) rfl (fun c0 => ?_) (fun c0 => ?_)
 ·have c0 := (oT eT eT) c0
  refine .seq <| .rs fun k4 => .g (fun _ τ => ⟨_, .buildSlice (.no rfl) rfl (els := [[.v (.int .i64 (1))]]) t27 rfl z2 rfl rfl rfl rfl rfl rfl rfl rfl (by simp [i2]) (.cons _ _ _ _ _ _ (.d _) .nil) rfl rfl rfl τ⟩) <| .as rfl <| .z <| .ret ?_
  exact fin1 (.inr rfl) [[10]] [([10], (k4, k4, .row 2 1 ([[.v (.int .i64 (1))]])))] (.one rfl .nil) (.cons (Gives.castE (f := i64c) (L := [1]) (L' := takesL op) (by (unfold takesL; rw [if_pos c0])) (Reads.ref (Frz.of_erase (erase_slo true 2 1 i64c i64c ([1]) i64c_e)) (.head _) (.head _)).gives) .nil) rfl rfl (.r rfl)
 ·have c0 := (oF eF eF) c0
  refine .seq <| .rs fun k5 => .mv rfl <| .c0 (c_within op 8 18) rfl (.dd (.dd (.dd .nil))) (.own [13, 0] .nil) rfl <| .as rfl <| .z ?_
  refine .cond (t := inR op 8 18) rfl (fun c1 => ?_) (fun c1 => ?_)
  ·have c1 := c1
   refine .seq <| .rs fun k6 => .g (fun _ τ => ⟨_, .buildSlice (.no rfl) rfl (els := [[.v (.int .i64 (1))], [.v (.int .i64 (1))]]) t27 rfl z2 rfl rfl rfl rfl rfl rfl rfl rfl (by simp [i2]) (.cons _ _ _ _ _ _ (.d _) (.cons _ _ _ _ _ _ (.d _) .nil)) rfl rfl rfl τ⟩) <| .as rfl <| .z <| .ret ?_
   exact fin1 (.inr rfl) [[14]] [([14], (k6, k6, .row 2 1 ([[.v (.int .i64 (1))], [.v (.int .i64 (1))]])))] (.one rfl .nil) (.cons (Gives.castE (f := i64c) (L := [1, 1]) (L' := takesL op) (by (unfold takesL; rw [if_neg (by omega), if_pos c1])) (Reads.ref (Frz.of_erase (erase_slo true 2 1 i64c i64c ([1, 1]) i64c_e)) (.head _) (.head _)).gives) .nil) rfl rfl (.r rfl)
  ·have c1 := c1
   refine .seq <| .rs fun k7 => .mv rfl <| .bi rfl <| .as rfl <| .z ?_
   refine .cond (t := op == 19) rfl (fun c2 => ?_) (fun c2 => ?_)
   ·have c2 := (by simpa using c2 : op = 19)
    refine .seq <| .rs fun k8 => .g (fun _ τ => ⟨_, .buildSlice (.no rfl) rfl (els := [[.v (.int .i64 (2))]]) t27 rfl z2 rfl rfl rfl rfl rfl rfl rfl rfl (by simp [i2]) (.cons _ _ _ _ _ _ (.d _) .nil) rfl rfl rfl τ⟩) <| .as rfl <| .z <| .ret ?_
    exact fin1 (.inr rfl) [[18]] [([18], (k8, k8, .row 2 1 ([[.v (.int .i64 (2))]])))] (.one rfl .nil) (.cons (Gives.castE (f := i64c) (L := [2]) (L' := takesL op) (by (unfold takesL; rw [if_neg (by omega), if_neg (by rw [c1]; decide), if_pos c2])) (Reads.ref (Frz.of_erase (erase_slo true 2 1 i64c i64c ([2]) i64c_e)) (.head _) (.head _)).gives) .nil) rfl rfl (.r rfl)
   ·have c2 := (by simpa using c2 : ¬ (op = 19))
    refine .seq ?_
    refine .reg (X := Unit) (fun ζ => .of [(19, .one (.d (.v (.bool ((op == 20 || op == 21))))))] []) [⟨[0], some 20, [], []⟩, ⟨[20], some 21, [], []⟩, ⟨[21], some 22, [], []⟩, ⟨[22, 0], some 23, [], []⟩, ⟨[22, 23], some 24, [], []⟩, ⟨[22, 24], some 25, [], []⟩, ⟨[25], some 19, [], []⟩] (fun k9 => ?_) ?_
    ·skip
     refine .move (.no rfl) rfl rfl rfl rfl <| .bin (.no rfl) rfl rfl rfl rfl rfl rfl <| .moveB (.no rfl) rfl rfl rfl rfl fun b10 g7_2 => ?_
     cases b10
     ·skip
      refine .move (.on rfl rfl rfl rfl rfl) rfl rfl rfl rfl <| .bin (.on rfl rfl rfl rfl rfl) rfl rfl rfl rfl rfl rfl <| .pick (.no rfl) rfl rfl rfl rfl rfl <| .assign (.no rfl) rfl rfl rfl rfl ?_
      exact .fin () (.of (.cons (svB (show (op == 21) = ((op == 20 || op == 21)) by first | (simp only [g7_2, Bool.true_or, Bool.false_or, Bool.true_and, Bool.false_and, Bool.not_true, Bool.not_false]; done) | (simp [g7_2]; done) | (exfalso; simp_all; done))) .nil) .nil)
     ·skip
      refine .off rfl rfl rfl rfl rfl rfl rfl <| .off rfl rfl rfl rfl rfl rfl rfl <| .pick (.no rfl) rfl rfl rfl rfl rfl <| .assign (.no rfl) rfl rfl rfl rfl ?_
      exact .fin () (.of (.cons (svB (show (true) = ((op == 20 || op == 21)) by first | (simp only [g7_2, Bool.true_or, Bool.false_or, Bool.true_and, Bool.false_and, Bool.not_true, Bool.not_false]; done) | (simp [g7_2]; done) | (exfalso; simp_all; done))) .nil) .nil)
    intro _
    refine .cond (t := (op == 20 || op == 21)) rfl (fun c3 => ?_) (fun c3 => ?_)
    ·have c3 := (oT eT eT) c3
     refine .seq <| .rs fun k11 => .g (fun _ τ => ⟨_, .buildSlice (.no rfl) rfl (els := [[.v (.int .i64 (2))], [.v (.int .i64 (2))]]) t27 rfl z2 rfl rfl rfl rfl rfl rfl rfl rfl (by simp [i2]) (.cons _ _ _ _ _ _ (.d _) (.cons _ _ _ _ _ _ (.d _) .nil)) rfl rfl rfl τ⟩) <| .as rfl <| .z <| .ret ?_
     exact fin1 (.inr rfl) [[26]] [([26], (k11, k11, .row 2 1 ([[.v (.int .i64 (2))], [.v (.int .i64 (2))]])))] (.one rfl .nil) (.cons (Gives.castE (f := i64c) (L := [2, 2]) (L' := takesL op) (by (unfold takesL; rw [if_neg (by omega), if_neg (by rw [c1]; decide), if_neg c2, if_pos c3])) (Reads.ref (Frz.of_erase (erase_slo true 2 1 i64c i64c ([2, 2]) i64c_e)) (.head _) (.head _)).gives) .nil) rfl rfl (.r rfl)
    ·have c3 := (oF eF eF) c3
     refine .skip <| .seq <| .rs fun k12 => .as rfl <| .z <| .ret ?_
     exact fin0 (.inr rfl) (.one rfl .nil) (.cons (Gives.nil' (by (unfold takesL; rw [if_neg (by omega), if_neg (by rw [c1]; decide), if_neg c2, if_neg (by omega)]; rfl))) .nil) rfl
theorem c_leaves1 (op : Int) : Trip Tryz.prog 69 [(false, 1)] ([.v (.int .i64 (op))]) [(false, 1)] [.v (.int .i64 (leavesK op))] [] := by
 refine Trip.of Tryz.func69 (by decide) (c := _) rfl rfl (Nat.le_of_ble_eq_true rfl) rfl (AftOk.nil _) <| .seq <| .rs fun k1 => .as rfl <| .z <| .seq <| .seq ?_
 refine .reg (X := Unit) (fun ζ => .of [(8, .one (.d (.v (.bool ((inR op 3 5 || decide (op ≥ 13)))))))] []) [⟨[0], some 3, [], []⟩, ⟨[3], some 4, [], []⟩, ⟨[4], some 5, [], []⟩, ⟨[5, 0], some 6, [], []⟩, ⟨[5, 6], some 7, [], []⟩, ⟨[5, 7], some 8, [], []⟩] (fun k2 => ?_) ?_
 ·skip
  refine .move (.no rfl) rfl rfl rfl rfl <| .call (.no rfl) rfl [] [] (c_within op 3 5) rfl rfl rfl rfl rfl (.dd (.dd (.dd .nil))) rfl rfl (fun h => absurd rfl h) (.own [4, 0] .nil) (.nil) rfl rfl rfl (by simp) rfl rfl rfl <| .moveB (.no rfl) rfl rfl rfl rfl fun b3 g1_2 => ?_
  cases b3
  ·skip
   refine .move (.on rfl rfl rfl rfl rfl) rfl rfl rfl rfl <| .bin (.on rfl rfl rfl rfl rfl) rfl rfl rfl rfl rfl rfl <| .pick (.no rfl) rfl rfl rfl rfl rfl ?_
   exact .fin () (.of (.cons (svB (show (decide (op ≥ 13)) = ((inR op 3 5 || decide (op ≥ 13))) by first | (simp only [g1_2, Bool.true_or, Bool.false_or, Bool.true_and, Bool.false_and, Bool.not_true, Bool.not_false]; done) | (simp [g1_2]; done) | (exfalso; simp_all; done))) .nil) .nil)
  ·skip
   refine .off rfl rfl rfl rfl rfl rfl rfl <| .off rfl rfl rfl rfl rfl rfl rfl <| .pick (.no rfl) rfl rfl rfl rfl rfl ?_
   exact .fin () (.of (.cons (svB (show (true) = ((inR op 3 5 || decide (op ≥ 13))) by first | (simp only [g1_2, Bool.true_or, Bool.false_or, Bool.true_and, Bool.false_and, Bool.not_true, Bool.not_false]; done) | (simp [g1_2]; done) | (exfalso; simp_all; done))) .nil) .nil)
 intro _
 refine .cond (t := (inR op 3 5 || decide (op ≥ 13))) rfl (fun c0 => ?_) (fun c0 => ?_)
 ·have c0 := (oT id dT) c0
  refine .seq <| .rs fun k4 => .as rfl <| .z <| .ret ?_
  exact fin0 (.inr rfl) (.one (svI (show (2) = (leavesK op) by (unfold leavesK; rw [if_pos c0]))) .nil) (.dd .nil) rfl
 ·have c0 := (oF id dF) c0
  refine .skip <| .seq <| .rs fun k6 => .as rfl <| .z <| .ret ?_
  exact fin0 (.inr rfl) (.one (svI (show (1) = (leavesK op) by (unfold leavesK; rw [if_neg (by rcases c0 with ⟨h1, h2⟩; rw [h1]; simp; omega)]))) .nil) (.dd .nil) rfl
theorem c_isTok (d : Decl) (t : Tok) : Trip Tryz.prog 66 [(true, 3), (true, 2)] (Decl.c39 d ++ Tok.c t) [(false, 1)] [.v (.bool (Tok.ok d t))] [] := by
 refine Trip.of Tryz.func66 (by decide) (c := _) rfl rfl (Nat.le_of_ble_eq_true rfl) rfl (AftOk.nil _) <| .sla (t := 0) 0 rfl rfl fun hs1l => .sla (t := 0) 1 rfl rfl fun hs2l => .sla (t := 0) 2 rfl rfl fun hs3l => .seq <| .rs fun k4 => .g (fun _ τ => ⟨_, .box (.no rfl) rfl rfl rfl rfl rfl τ⟩) <| .g (fun _ τ => ⟨_, .box (.no rfl) rfl rfl rfl rfl rfl τ⟩) <| .as rfl ?_
 refine .z <| .seq <| .seq <| .rs fun k5 => .fp t76 t2 rfl <| .ld t2 rfl (.ptr _ _ _ _ _ rfl) rfl <| .z <| .block <| .seq ?_
 refine .rs fun k6 => .bi rfl <| .as rfl <| .z ?_
 refine .cond (t := t.op == 1) rfl (fun c0 => ?_) (fun c0 => ?_)
 ·have c0 := (by simpa using c0 : t.op = 1)
  refine .seq <| .rs fun k7 => .fp t76 t2 rfl <| .ld t2 rfl (.ptr _ _ _ _ _ rfl) rfl <| .c0 (c_within t.n 0 999999999999999999) rfl (.dd (.dd (.dd .nil))) (.own [11, 0] .nil) rfl <| .as rfl <| .z <| .ret ?_
  exact fin0 (.inr rfl) (.one (svB (show (inR t.n 0 999999999999999999) = (Tok.ok d t) by (unfold Tok.ok; rw [if_pos c0]))) .nil) (.dd .nil) rfl
 ·have c0 := (by simpa using c0 : ¬ (t.op = 1))
  refine .seq <| .rs fun k9 => .bi rfl <| .as rfl <| .z ?_
  refine .cond (t := t.op == 2) rfl (fun c1 => ?_) (fun c1 => ?_)
  ·have c1 := (by simpa using c1 : t.op = 2)
   refine .seq ?_
   refine .regD (X := Unit) (by kernel_rfl) (fun ζ => .of [(4, .one (.d (.v (.bool (inR t.n 0 ((d.vars.length : Int) - 1))))))] []) [⟨[3], some 14, [], []⟩, ⟨[14], some 15, [[3]], []⟩, ⟨[2], some 16, [], []⟩, ⟨[16], some 17, [[2]], []⟩, ⟨[17], some 18, [], []⟩, ⟨[18], some 19, [], []⟩, ⟨[15, 19], some 20, [], []⟩, ⟨[20], some 4, [], []⟩] (by kernel_rfl) (fun k10 => ?_) ?_
   ·skip
    refine .fieldAddrP (.no rfl) rfl t76 rfl rfl t2 rfl rfl rfl rfl <| .load (.no rfl) rfl t2 rfl rfl (.ptr _ _ _ _ _ rfl) rfl rfl rfl rfl <| .fieldAddrP (.no rfl) rfl t39 rfl rfl t22 rfl rfl rfl rfl <| .load (.no rfl) rfl t22 rfl rfl (.ptr _ _ _ _ _ rfl) rfl rfl rfl rfl <| .call (.no rfl) rfl [] [] (c_sizeS d.vars) rfl rfl rfl rfl rfl (.dd .nil) rfl rfl (fun h => absurd rfl h) (.own [18, 0] .nil) (.nil) rfl rfl rfl (by simp) rfl rfl rfl <| .binN (.no rfl) rfl (show IntKind.wrap .i64 ((d.vars.length : Int) - 1) = (d.vars.length : Int) - 1 by (exact wrap_le (by omega) (by omega))) rfl rfl rfl rfl rfl <| .call (.no rfl) rfl [] [] (c_within t.n 0 ((d.vars.length : Int) - 1)) rfl rfl rfl rfl rfl (.dd (.dd (.dd .nil))) rfl rfl (fun h => absurd rfl h) (.own [20, 0] .nil) (.nil) rfl rfl rfl (by simp) rfl rfl rfl <| .assign (.no rfl) rfl rfl rfl rfl ?_
    exact .fin () (.of (.r rfl) .nil)
   intro _
   refine .ret ?_
   exact fin0 (.inr rfl) (.one (svB (show (inR t.n 0 ((d.vars.length : Int) - 1)) = (Tok.ok d t) by (unfold Tok.ok; rw [if_neg c0, if_pos c1]))) .nil) (.dd .nil) rfl
  ·have c1 := (by simpa using c1 : ¬ (t.op = 2))
   refine .seq <| .rs fun k12 => .bi rfl <| .as rfl <| .z ?_
   refine .cond (t := t.op == 3) rfl (fun c2 => ?_) (fun c2 => ?_)
   ·have c2 := (by simpa using c2 : t.op = 3)
    refine .seq ?_
    refine .regD (X := Unit) (by kernel_rfl) (fun ζ => .of [(4, .one (.d (.v (.bool (inR t.n 0 ((d.flags.length : Int) - 1))))))] []) [⟨[3], some 23, [], []⟩, ⟨[23], some 24, [[3]], []⟩, ⟨[2], some 25, [], []⟩, ⟨[25], some 26, [[2]], []⟩, ⟨[26], some 27, [], []⟩, ⟨[27], some 28, [], []⟩, ⟨[24, 28], some 29, [], []⟩, ⟨[29], some 4, [], []⟩] (by kernel_rfl) (fun k13 => ?_) ?_
    ·skip
     refine .fieldAddrP (.no rfl) rfl t76 rfl rfl t2 rfl rfl rfl rfl <| .load (.no rfl) rfl t2 rfl rfl (.ptr _ _ _ _ _ rfl) rfl rfl rfl rfl <| .fieldAddrP (.no rfl) rfl t39 rfl rfl t22 rfl rfl rfl rfl <| .load (.no rfl) rfl t22 rfl rfl (.ptr _ _ _ _ _ rfl) rfl rfl rfl rfl <| .call (.no rfl) rfl [] [] (c_sizeS d.flags) rfl rfl rfl rfl rfl (.dd .nil) rfl rfl (fun h => absurd rfl h) (.own [27, 0] .nil) (.nil) rfl rfl rfl (by simp) rfl rfl rfl <| .binN (.no rfl) rfl (show IntKind.wrap .i64 ((d.flags.length : Int) - 1) = (d.flags.length : Int) - 1 by (exact wrap_le (by omega) (by omega))) rfl rfl rfl rfl rfl <| .call (.no rfl) rfl [] [] (c_within t.n 0 ((d.flags.length : Int) - 1)) rfl rfl rfl rfl rfl (.dd (.dd (.dd .nil))) rfl rfl (fun h => absurd rfl h) (.own [29, 0] .nil) (.nil) rfl rfl rfl (by simp) rfl rfl rfl <| .assign (.no rfl) rfl rfl rfl rfl ?_
     exact .fin () (.of (.r rfl) .nil)
    intro _
    refine .ret ?_
    exact fin0 (.inr rfl) (.one (svB (show (inR t.n 0 ((d.flags.length : Int) - 1)) = (Tok.ok d t) by (unfold Tok.ok; rw [if_neg c0, if_neg c1, if_pos c2]))) .nil) (.dd .nil) rfl
   ·have c2 := (by simpa using c2 : ¬ (t.op = 3))
    refine .seq <| .rs fun k15 => .bi rfl <| .as rfl <| .z ?_
    refine .cond (t := t.op == 6) rfl (fun c3 => ?_) (fun c3 => ?_)
    ·have c3 := (by simpa using c3 : t.op = 6)
     refine .seq ?_
     refine .regD (X := Unit) (by kernel_rfl) (fun ζ => .of [(4, .one (.d (.v (.bool (inR t.n 0 ((d.arrays.length : Int) - 1))))))] []) [⟨[3], some 32, [], []⟩, ⟨[32], some 33, [[3]], []⟩, ⟨[2], some 34, [], []⟩, ⟨[34], some 35, [[2]], []⟩, ⟨[35], some 36, [], []⟩, ⟨[36], some 37, [], []⟩, ⟨[33, 37], some 38, [], []⟩, ⟨[38], some 4, [], []⟩] (by kernel_rfl) (fun k16 => ?_) ?_
     ·skip
      refine .fieldAddrP (.no rfl) rfl t76 rfl rfl t2 rfl rfl rfl rfl <| .load (.no rfl) rfl t2 rfl rfl (.ptr _ _ _ _ _ rfl) rfl rfl rfl rfl <| .fieldAddrP (.no rfl) rfl t39 rfl rfl t37 rfl rfl rfl rfl <| .load (.no rfl) rfl t37 rfl rfl (.ptr _ _ _ _ _ rfl) rfl rfl rfl rfl <| .call (.no rfl) rfl [] [] (c_sizeA d.arrays) rfl rfl rfl rfl rfl (.dd .nil) rfl rfl (fun h => absurd rfl h) (.own [36, 0] .nil) (.nil) rfl rfl rfl (by simp) rfl rfl rfl <| .binN (.no rfl) rfl (show IntKind.wrap .i64 ((d.arrays.length : Int) - 1) = (d.arrays.length : Int) - 1 by (exact wrap_le (by omega) (by omega))) rfl rfl rfl rfl rfl <| .call (.no rfl) rfl [] [] (c_within t.n 0 ((d.arrays.length : Int) - 1)) rfl rfl rfl rfl rfl (.dd (.dd (.dd .nil))) rfl rfl (fun h => absurd rfl h) (.own [38, 0] .nil) (.nil) rfl rfl rfl (by simp) rfl rfl rfl <| .assign (.no rfl) rfl rfl rfl rfl ?_
      exact .fin () (.of (.r rfl) .nil)
     intro _
     refine .ret ?_
     exact fin0 (.inr rfl) (.one (svB (show (inR t.n 0 ((d.arrays.length : Int) - 1)) = (Tok.ok d t) by (unfold Tok.ok; rw [if_neg c0, if_neg c1, if_neg c2, if_pos c3]))) .nil) (.dd .nil) rfl
    ·have c3 := (by simpa using c3 : ¬ (t.op = 6))
     refine .skip <| .seq ?_
     refine .reg (X := Unit) (fun ζ => .of [(4, .one (.d (.v (.bool ((inR t.op 4 21 && t.n == 0))))))] []) [⟨[3], some 39, [], []⟩, ⟨[39], some 40, [[3]], []⟩, ⟨[40], some 41, [], []⟩, ⟨[41], some 42, [], []⟩, ⟨[42, 3], some 43, [], []⟩, ⟨[42, 43], some 44, [[3]], []⟩, ⟨[42, 44], some 45, [], []⟩, ⟨[42, 45], some 46, [], []⟩, ⟨[46], some 4, [], []⟩] (fun k18 => ?_) ?_
     ·skip
      refine .fieldAddrP (.no rfl) rfl t76 rfl rfl t2 rfl rfl rfl rfl <| .load (.no rfl) rfl t2 rfl rfl (.ptr _ _ _ _ _ rfl) rfl rfl rfl rfl <| .call (.no rfl) rfl [] [] (c_within t.op 4 21) rfl rfl rfl rfl rfl (.dd (.dd (.dd .nil))) rfl rfl (fun h => absurd rfl h) (.own [41, 0] .nil) (.nil) rfl rfl rfl (by simp) rfl rfl rfl <| .moveB (.no rfl) rfl rfl rfl rfl fun b19 g10_3 => ?_
      cases b19
      ·skip
       refine .off rfl rfl rfl rfl rfl rfl rfl <| .off rfl rfl rfl rfl rfl rfl rfl <| .off rfl rfl rfl rfl rfl rfl rfl <| .pick (.no rfl) rfl rfl rfl rfl rfl <| .assign (.no rfl) rfl rfl rfl rfl ?_
       exact .fin () (.of (.cons (svB (show (false) = ((inR t.op 4 21 && t.n == 0)) by first | (simp only [g10_3, Bool.true_or, Bool.false_or, Bool.true_and, Bool.false_and, Bool.not_true, Bool.not_false]; done) | (simp [g10_3]; done) | (exfalso; simp_all; done))) .nil) .nil)
      ·skip
       refine .fieldAddrP (.on rfl rfl rfl rfl rfl) rfl t76 rfl rfl t2 rfl rfl rfl rfl <| .load (.on rfl rfl rfl rfl rfl) rfl t2 rfl rfl (.ptr _ _ _ _ _ rfl) rfl rfl rfl rfl <| .bin (.on rfl rfl rfl rfl rfl) rfl rfl rfl rfl rfl rfl <| .pick (.no rfl) rfl rfl rfl rfl rfl <| .assign (.no rfl) rfl rfl rfl rfl ?_
       exact .fin () (.of (.cons (svB (show (t.n == 0) = ((inR t.op 4 21 && t.n == 0)) by first | (simp only [g10_3, Bool.true_or, Bool.false_or, Bool.true_and, Bool.false_and, Bool.not_true, Bool.not_false]; done) | (simp [g10_3]; done) | (exfalso; simp_all; done))) .nil) .nil)
     intro _
     refine .ret ?_
     exact fin0 (.inr rfl) (.one (svB (show ((inR t.op 4 21 && t.n == 0)) = (Tok.ok d t) by (unfold Tok.ok; rw [if_neg c0, if_neg c1, if_neg c2, if_neg c3]))) .nil) (.dd .nil) rfl
theorem c_IndexFuncK (l : List Tok) (F_p : FuncId) (first_p : List (Bool × List D)) (caps_p : List D) (p : Tok → Bool) (h_p : ∀ (x0 : Tok), FnTrip Tryz.prog F_p first_p caps_p [(true, 2)] (Tok.c x0) [(false, 1)] [.v (.bool (p x0))]) : Trip Tryz.prog 141 [(false, 1), (false, 1)] ([.sl false 76 2 (List.map Tok.c (l))] ++ [.fn F_p first_p caps_p]) [(false, 1)] [.v (.int .i64 (idx p l))] [] := by
 refine Trip.of Tryz.func141 (by decide) (c := _) rfl rfl (Nat.le_of_ble_eq_true rfl) rfl (AftOk.nil _) <| .sl (t := 0) rfl fun hs1l => .seq <| .rs fun k2 => .as rfl <| .z <| .seq <| .seq <| .rs fun k3 => ?_
 refine .mv rfl <| .g (fun _ τ => ⟨_, .len (.no rfl) rfl (z := (l.length : Int)) t41 rfl rfl rfl (.d _ _) (map_len _ _) rfl τ⟩) <| .mv rfl <| .z <| .block ?_
 refine .loop (X := Nat) (fun ζ => .of [(0, .one (.d (.sl false 76 2 (List.map Tok.c (l))))), (1, .one (.d (.fn F_p first_p caps_p))), (7, .one (.d (.v (.int .i64 ((l.length : Int)))))), (8, .one (.d (.v (.int .i64 ((ζ : Int))))))] []) (fun ζ => ζ ≤ l.length ∧ allTo ζ (fun i => !p (l.getD i default)) = true) (fun ζ => l.length - ζ) ?_ ?_
 ·skip
  exact .here 0 (.of (.cons rfl (.cons rfl (.cons rfl (.cons (svI (show (0) = ((0 : Int)) by first | rfl | omega | exact wrap_le (by omega) (by omega) | (rw [wrap_le (by omega) (by omega)]; omega))) .nil)))) .nil) (show 0 ≤ l.length ∧ allTo 0 (fun i => !p (l.getD i default)) = true by exact ⟨by omega, rfl⟩)
 ·rintro j hI
  have hI : j ≤ l.length ∧ allTo j (fun i => !p (l.getD i default)) = true := hI
  refine .seq <| .rs fun k4 => .bi rfl <| .z <| .seq ?_
  refine .cond (t := decide ((j : Int) < (l.length : Int))) rfl (fun c0 => ?_) (fun c0 => ?_)
  ·have c0 := of_decide_eq_true c0
   refine .skip <| .seq <| .block <| .seq <| .rs fun k5 => .mv rfl <| .as rfl <| .z <| .seq ?_
   refine .rs fun k6 => .mv rfl <| .mv rfl <| .mv rfl <| .g (fun _ τ => ⟨_, .indexAddr (.no rfl) rfl (j) t41 rfl t76 rfl rfl rfl (.d _ _) rfl rfl rfl (map_get (by omega)) rfl rfl τ⟩) <| .lda t76 rfl (.d _) rfl <| .g (fun _ τ => ⟨_, .callF (.no rfl) rfl (ds := [.v (.int .i64 ((l.getD j default).op)), .v (.int .i64 ((l.getD j default).n))]) (h_p (l.getD j default)) rfl rfl rfl rfl (.own [16, 0] .nil) rfl rfl rfl rfl rfl rfl τ⟩) <| .z ?_
   refine .cond (t := p (l.getD j default)) rfl (fun c1 => ?_) (fun c1 => ?_)
   ·have c1 := c1
    refine .seq <| .rs fun k7 => .mv rfl <| .as rfl <| .z <| .ret ?_
    exact fin0 (.inr rfl) (.one (svI (show ((j : Int)) = (idx p l) by exact (idx_found (j := j) (by omega) hI.2 (by simpa using c1)).symm)) .nil) (.dd .nil) rfl
   ·have c1 := c1
    refine .skip <| .rs fun k9 => .bi rfl <| .mv rfl <| .z ?_
    exact .here (j + 1) (.of (.cons rfl (.cons rfl (.cons rfl (.cons (svI (show (IntKind.wrap .i64 ((j : Int) + 1)) = (((j + 1) : Int)) by first | rfl | omega | exact wrap_le (by omega) (by omega) | (rw [wrap_le (by omega) (by omega)]; omega))) .nil)))) .nil) ⟨(show (j + 1) ≤ l.length ∧ allTo (j + 1) (fun i => !p (l.getD i default)) = true by exact ⟨by omega, allTo_step hI.2 (by simpa using c1)⟩), (show l.length - (j + 1) < l.length - j by omega)⟩
  ·have c0 := of_decide_eq_false c0
   refine .exit <| .seq <| .rs fun k10 => .as rfl <| .z <| .ret ?_
   exact fin0 (.inr rfl) (.one (svI (show (-1) = (idx p l) by exact (idx_none (by omega) hI.2).symm)) .nil) (.dd .nil) rfl
theorem c_ContainsFuncK (l : List Tok) (F_p : FuncId) (first_p : List (Bool × List D)) (caps_p : List D) (p : Tok → Bool) (h_p : ∀ (x0 : Tok), FnTrip Tryz.prog F_p first_p caps_p [(true, 2)] (Tok.c x0) [(false, 1)] [.v (.bool (p x0))]) : Trip Tryz.prog 103 [(false, 1), (false, 1)] ([.sl false 76 2 (List.map Tok.c (l))] ++ [.fn F_p first_p caps_p]) [(false, 1)] [.v (.bool (l.any p))] [] := by
 refine Trip.of Tryz.func103 (by decide) (c := _) rfl rfl (Nat.le_of_ble_eq_true rfl) rfl (AftOk.nil _) <| .sl (t := 0) rfl fun hs1l => .seq <| .rs fun k2 => .as rfl <| .z <| .seq <| .rs fun k3 => .mv rfl ?_
 refine .mv rfl <| .c0 (c_IndexFuncK l F_p first_p caps_p p h_p) rfl (.dd (.dd .nil)) (.own [7, 0] .nil) rfl <| .bi rfl <| .as rfl <| .z <| .ret ?_
 exact fin0 (.inr rfl) (.one (svB (show (decide ((idx p l) ≥ 0)) = (l.any p) by exact idx_any _ _)) .nil) (.dd .nil) rfl
theorem c_areAll1K (x : Tok) (F_p : FuncId) (first_p : List (Bool × List D)) (caps_p : List D) (p : Tok → Bool) (h_p : ∀ (x0 : Tok), FnTrip Tryz.prog F_p first_p caps_p [(true, 2)] (Tok.c x0) [(false, 1)] [.v (.bool (p x0))]) : Trip Tryz.prog 104 [(true, 2), (false, 1)] (Tok.c x ++ [.pt false [.fn F_p first_p caps_p]]) [(false, 1)] [.v (.bool (!p x))] [] := by
 refine Trip.of Tryz.func104 (by decide) (c := _) rfl rfl (Nat.le_of_ble_eq_true rfl) rfl (AftOk.nil _) <| .seq <| .rs fun k1 => .g (fun _ τ => ⟨_, .box (.no rfl) rfl rfl rfl rfl rfl τ⟩) <| .as rfl <| .z <| .seq <| .rs fun k2 => .ld t114 rfl (.d _) rfl ?_
 refine .lda t76 rfl (.ptr _ _ _ _ _ rfl) rfl <| .g (fun _ τ => ⟨_, .callF (.no rfl) rfl (ds := [.v (.int .i64 (x.op)), .v (.int .i64 (x.n))]) (h_p x) rfl rfl rfl rfl (.own [6, 0] .nil) rfl rfl rfl rfl rfl rfl τ⟩) <| .un rfl <| .as rfl <| .z <| .ret ?_
 exact fin0 (.inr rfl) (.one (svB (show (!(p x)) = (!p x) by rfl)) .nil) (.dd .nil) rfl
theorem c_areAllK (l : List Tok) (F_p : FuncId) (first_p : List (Bool × List D)) (caps_p : List D) (p : Tok → Bool) (h_p : ∀ (x0 : Tok), FnTrip Tryz.prog F_p first_p caps_p [(true, 2)] (Tok.c x0) [(false, 1)] [.v (.bool (p x0))]) : Trip Tryz.prog 65 [(false, 1), (false, 1)] ([.sl false 76 2 (List.map Tok.c (l))] ++ [.fn F_p first_p caps_p]) [(false, 1)] [.v (.bool (l.all p))] [] := by
 refine Trip.of Tryz.func65 (by decide) (c := _) rfl rfl (Nat.le_of_ble_eq_true rfl) rfl (AftOk.nil _) <| .sl (t := 0) rfl fun hs1l => .seq <| .rs fun k2 => .g (fun _ τ => ⟨_, .box (.no rfl) rfl rfl rfl rfl rfl τ⟩) <| .as rfl <| .z <| .seq <| .rs fun k3 => ?_
 refine .mv rfl <| .g (fun _ τ => ⟨_, .makeFunc (.no rfl) rfl rfl rfl rfl rfl τ⟩) <| .g (fun _ τ => ⟨_, .call (.no rfl) rfl [[3]] [([3], (k2, k2, .box [.d (.fn F_p first_p caps_p)]))] (c_ContainsFuncK l 104 [] [.pt false [.fn F_p first_p caps_p]] (fun x0 => !p x0) (fun x0 => c_areAll1K x0 F_p first_p caps_p p h_p)) rfl rfl rfl rfl rfl (.dd (.cons (Reads.clo0 (.cons (Reads.ptr0 (.head _) (.head _) (.cons (Reads.d _) .nil)) .nil)).gives .nil)) rfl rfl (fun _ => (ownCons (Owned.v _) ownNil)) (.own [7, 0] .nil) (.nil) rfl rfl rfl (AllH.get (.r rfl)) rfl rfl rfl τ⟩) <| .un rfl <| .as rfl <| .z <| .ret ?_
 exact fin0 (.inr rfl) (.one (svB (show (!(l.any (fun x0 => !p x0))) = (l.all p) by exact not_any _ _)) .nil) (.dd .nil) rfl
theorem c_EqualN (a : List Int) (b : List Int) : Trip Tryz.prog 68 [(false, 1), (false, 1)] ([.sl false 2 1 (List.map i64c (a))] ++ [.sl false 2 1 (List.map i64c (b))]) [(false, 1)] [.v (.bool (all2 intEq a b))] [] := by
 refine Trip.of Tryz.func68 (by decide) (c := _) rfl rfl (Nat.le_of_ble_eq_true rfl) rfl (AftOk.nil _) <| .sl (t := 0) rfl fun hs1l => .sl (t := 1) rfl fun hs2l => .seq <| .rs fun k3 => .as rfl <| .z <| .seq <| .seq ?_
 refine .rs fun k4 => .mv rfl <| .g (fun _ τ => ⟨_, .len (.no rfl) rfl (z := (a.length : Int)) t27 rfl rfl rfl (.d _ _) (map_len _ _) rfl τ⟩) <| .mv rfl <| .g (fun _ τ => ⟨_, .len (.no rfl) rfl (z := (b.length : Int)) t27 rfl rfl rfl (.d _ _) (map_len _ _) rfl τ⟩) <| .bi rfl <| .z ?_
 refine .cond (t := (a.length : Int) != (b.length : Int)) rfl (fun c0 => ?_) (fun c0 => ?_)
 ·have c0 := (by simpa using c0 : ¬ ((a.length : Int) = (b.length : Int)))
  refine .seq <| .rs fun k5 => .as rfl <| .z <| .ret ?_
  exact fin0 (.inr rfl) (.one (svB (show (false) = (all2 intEq a b) by exact (all2_ne _ (by simpa using c0)).symm)) .nil) (.dd .nil) rfl
 ·have c0 := (by simpa using c0 : (a.length : Int) = (b.length : Int))
  refine .skip <| .seq <| .seq <| .rs fun k7 => .mv rfl <| .g (fun _ τ => ⟨_, .len (.no rfl) rfl (z := (a.length : Int)) t27 rfl rfl rfl (.d _ _) (map_len _ _) rfl τ⟩) <| .mv rfl <| .z <| .block ?_
  refine .loop (X := Nat) (fun ζ => .of [(0, .one (.d (.sl false 2 1 (List.map i64c (a))))), (1, .one (.d (.sl false 2 1 (List.map i64c (b))))), (12, .one (.d (.v (.int .i64 ((a.length : Int)))))), (13, .one (.d (.v (.int .i64 ((ζ : Int))))))] []) (fun ζ => ζ ≤ a.length ∧ a.length = b.length ∧ allTo ζ (fun i => intEq (a.getD i default) (b.getD i default)) = true) (fun ζ => a.length - ζ) ?_ ?_
  ·skip
   exact .here 0 (.of (.cons rfl (.cons rfl (.cons rfl (.cons (svI (show (0) = ((0 : Int)) by first | rfl | omega | exact wrap_le (by omega) (by omega) | (rw [wrap_le (by omega) (by omega)]; omega))) .nil)))) .nil) (show 0 ≤ a.length ∧ a.length = b.length ∧ allTo 0 (fun i => intEq (a.getD i default) (b.getD i default)) = true by exact ⟨by omega, by (first | omega | (simp at c0; omega)), rfl⟩)
  ·rintro j hI
   have hI : j ≤ a.length ∧ a.length = b.length ∧ allTo j (fun i => intEq (a.getD i default) (b.getD i default)) = true := hI
   refine .seq <| .rs fun k8 => .bi rfl <| .z <| .seq ?_
   refine .cond (t := decide ((j : Int) < (a.length : Int))) rfl (fun c1 => ?_) (fun c1 => ?_)
   ·have c1 := of_decide_eq_true c1
    refine .skip <| .seq <| .block <| .seq <| .rs fun k9 => .mv rfl <| .as rfl <| .z <| .seq ?_
    refine .regD (X := Unit) (by kernel_rfl) (fun ζ => .of [(0, .one (.d (.sl false 2 1 (List.map i64c (a))))), (1, .one (.d (.sl false 2 1 (List.map i64c (b))))), (12, .one (.d (.v (.int .i64 ((a.length : Int)))))), (13, .one (.d (.v (.int .i64 ((j : Int)))))), (24, .one (.d (.v (.bool ((a.getD j default) != (b.getD j default))))))] []) [⟨[0], some 16, [], []⟩, ⟨[5], some 17, [], []⟩, ⟨[16, 17], some 18, [], []⟩, ⟨[18], some 19, [], []⟩, ⟨[1], some 20, [], []⟩, ⟨[5], some 21, [], []⟩, ⟨[20, 21], some 22, [], []⟩, ⟨[22], some 23, [], []⟩, ⟨[19, 23], some 24, [], []⟩] (by kernel_rfl) (fun k10 => ?_) ?_
    ·skip
     refine .move (.no rfl) rfl rfl rfl rfl <| .move (.no rfl) rfl rfl rfl rfl <| .indexAddr (.no rfl) rfl (j) t27 rfl t2 rfl rfl rfl (.d _ _) rfl rfl rfl (map_get (by omega)) rfl rfl <| .load (.no rfl) rfl t2 rfl rfl (.d _) rfl rfl rfl rfl <| .move (.no rfl) rfl rfl rfl rfl <| .move (.no rfl) rfl rfl rfl rfl <| .indexAddr (.no rfl) rfl (j) t27 rfl t2 rfl rfl rfl (.d _ _) rfl rfl rfl (map_get (by omega)) rfl rfl <| .load (.no rfl) rfl t2 rfl rfl (.d _) rfl rfl rfl rfl <| .bin (.no rfl) rfl rfl rfl rfl rfl rfl ?_
     exact .fin () (.of (.r rfl) .nil)
    intro _
    refine .cond (t := (a.getD j default) != (b.getD j default)) rfl (fun c2 => ?_) (fun c2 => ?_)
    ·have c2 := (by simpa using c2 : ¬ ((a.getD j default) = (b.getD j default)))
     refine .seq <| .rs fun k11 => .as rfl <| .z <| .ret ?_
     exact fin0 (.inr rfl) (.one (svB (show (false) = (all2 intEq a b) by exact (all2_fail _ (j := j) (by omega) (by simpa [intEq] using c2)).symm)) .nil) (.dd .nil) rfl
    ·have c2 := (by simpa using c2 : (a.getD j default) = (b.getD j default))
     refine .skip <| .rs fun k13 => .bi rfl <| .mv rfl <| .z ?_
     exact .here (j + 1) (.of (.cons rfl (.cons rfl (.cons rfl (.cons (svI (show (IntKind.wrap .i64 ((j : Int) + 1)) = (((j + 1) : Int)) by first | rfl | omega | exact wrap_le (by omega) (by omega) | (rw [wrap_le (by omega) (by omega)]; omega))) .nil)))) .nil) ⟨(show (j + 1) ≤ a.length ∧ a.length = b.length ∧ allTo (j + 1) (fun i => intEq (a.getD i default) (b.getD i default)) = true by exact ⟨by omega, by omega, allTo_step hI.2.2 (by simpa [intEq] using c2)⟩), (show a.length - (j + 1) < a.length - j by omega)⟩
   ·have c1 := of_decide_eq_false c1
    refine .exit <| .seq <| .rs fun k14 => .as rfl <| .z <| .ret ?_
    exact fin0 (.inr rfl) (.one (svB (show (true) = (all2 intEq a b) by (have hj : j = a.length := (by omega); subst hj; exact (all2_done _ hI.2.1 hI.2.2).symm))) .nil) (.dd .nil) rfl
end Go.Proofs

namespace Go.Proofs
open Go Go.Proofs Go.Ev

theorem c_kindOf (d : Decl) (l : List Tok) : Trip Tryz.prog 37 [(true, 3), (false, 1)] (Decl.c39 d ++ [.sl false 76 2 (List.map Tok.c (l))]) [(false, 1)] [.v (.int .i64 (Expr.kind d l))] [] := by
 refine Trip.of Tryz.func37 (by decide) (c := _) rfl rfl (Nat.le_of_ble_eq_true rfl) rfl (AftOk.nil _) <| .sla (t := 0) 0 rfl rfl fun hs1l => .sla (t := 0) 1 rfl rfl fun hs2l => .sla (t := 0) 2 rfl rfl fun hs3l => .sl (t := 1) rfl fun hs4l => .seq <| .rs fun k5 => .g (fun _ τ => ⟨_, .box (.no rfl) rfl rfl rfl rfl rfl τ⟩) <| .as rfl ?_
 refine .z <| .seq <| .seq ?_
 refine .reg (X := Unit) (fun ζ => .of [(1, .one (.d (.sl false 76 2 (List.map Tok.c (l))))), (19, .one (.d (.v (.bool ((decide ((l.length : Int) > 40) || !(l.all (fun x0 => Tok.ok d x0))))))))] []) [⟨[1], some 10, [], []⟩, ⟨[10], some 11, [], []⟩, ⟨[11], some 12, [], []⟩, ⟨[12], some 13, [], []⟩, ⟨[13, 1], some 14, [], []⟩, ⟨[13, 2], some 15, [[2]], []⟩, ⟨[13, 15], some 16, [], []⟩, ⟨[13, 14, 16], some 17, [], []⟩, ⟨[13, 17], some 18, [], []⟩, ⟨[13, 18], some 19, [], []⟩] (fun k6 => ?_) ?_
 ·skip
  refine .move (.no rfl) rfl rfl rfl rfl <| .len (.no rfl) rfl (z := (l.length : Int)) t41 rfl rfl rfl (.d _ _) (map_len _ _) rfl <| .bin (.no rfl) rfl rfl rfl rfl rfl rfl <| .moveB (.no rfl) rfl rfl rfl rfl fun b7 g1_3 => ?_
  cases b7
  ·skip
   refine .move (.on rfl rfl rfl rfl rfl) rfl rfl rfl rfl <| .load (.on rfl rfl rfl rfl rfl) rfl t39 rfl rfl (.ptr _ _ _ _ _ rfl) rfl rfl rfl rfl <| .makeFunc (.on rfl rfl rfl rfl rfl) rfl rfl rfl rfl rfl <| .call (.on rfl rfl rfl rfl rfl) rfl [] [] (c_areAllK l 66 [(true, [.sl false 9 1 (List.map strc (d.vars)), .sl false 9 1 (List.map strc (d.flags)), .sl false 104 2 (List.map Arr.c (d.arrays))])] [] (fun x0 => Tok.ok d x0) (fun x0 => c_isTok d x0)) rfl rfl rfl rfl rfl (.dd (.cons (Reads.clo1 (.cons (Reads.d _) (.cons (Reads.d _) (.cons (Reads.d _) .nil))) (.nil)).gives .nil)) rfl rfl (fun h => absurd rfl h) (.own [17, 0] .nil) (.nil) rfl rfl rfl (by simp) rfl rfl rfl <| .un (.on rfl rfl rfl rfl rfl) rfl rfl rfl rfl rfl <| .pick (.no rfl) rfl rfl rfl rfl rfl ?_
   exact .fin () (.of (.cons rfl (.cons (svB (show (!(l.all (fun x0 => Tok.ok d x0))) = ((decide ((l.length : Int) > 40) || !(l.all (fun x0 => Tok.ok d x0)))) by first | (simp only [g1_3, Bool.true_or, Bool.false_or, Bool.true_and, Bool.false_and, Bool.not_true, Bool.not_false]; done) | (simp [g1_3]; done) | (exfalso; simp_all; done))) .nil)) .nil)
  ·skip
   refine .off rfl rfl rfl rfl rfl rfl rfl <| .off rfl rfl rfl rfl rfl rfl rfl <| .off rfl rfl rfl rfl rfl rfl rfl <| .off rfl rfl rfl rfl rfl rfl rfl <| .off rfl rfl rfl rfl rfl rfl rfl <| .pick (.no rfl) rfl rfl rfl rfl rfl ?_
   exact .fin () (.of (.cons rfl (.cons (svB (show (true) = ((decide ((l.length : Int) > 40) || !(l.all (fun x0 => Tok.ok d x0)))) by first | (simp only [g1_3, Bool.true_or, Bool.false_or, Bool.true_and, Bool.false_and, Bool.not_true, Bool.not_false]; done) | (simp [g1_3]; done) | (exfalso; simp_all; done))) .nil)) .nil)
 intro _
 refine .cond (t := (decide ((l.length : Int) > 40) || !(l.all (fun x0 => Tok.ok d x0)))) rfl (fun c0 => ?_) (fun c0 => ?_)
 ·have c0 := (oT dT (nT id)) c0
  refine .seq <| .rs fun k8 => .as rfl <| .z <| .ret ?_
  exact fin0 (.inr rfl) (.one (svI (show (0) = (Expr.kind d l) by (rcases c0 with h | h; exact (kind_long (by omega)).symm; exact (kind_bad h).symm))) .nil) (.dd .nil) rfl
 ·have c0 := (oF dF (nF id)) c0
  have ha : ∀ i, i < l.length → Tok.ok d (l.getD i default) = true := fun i hi => List.all_eq_true.1 c0.2 _ (getD_mem hi)
  refine .skip <| .seq <| .rs fun k10 => .as rfl <| .z <| .seq <| .seq <| .rs fun k11 => .mv rfl ?_
  refine .g (fun _ τ => ⟨_, .len (.no rfl) rfl (z := (l.length : Int)) t41 rfl rfl rfl (.d _ _) (map_len _ _) rfl τ⟩) <| .mv rfl <| .z <| .block ?_
  refine .loop (X := Nat × List Int × Nat × Nat) (fun ζ => .of [(5, .one (.ref [51] (ζ.2.2.1))), (20, .one (.d (.sl false 76 2 (List.map Tok.c (l))))), (21, .one (.d (.v (.int .i64 ((l.length : Int)))))), (22, .one (.d (.v (.int .i64 ((ζ.1 : Int))))))] [([51], (ζ.2.2.1, ζ.2.2.2, .row 2 1 (List.map i64c (ζ.2.1))))]) (fun ζ => ζ.1 ≤ l.length ∧ kdS d l ζ.1 = some ζ.2.1) (fun ζ => l.length - ζ.1) ?_ ?_
  ·skip
   refine .nilRow 5 [51] 2 1 rfl fun k14 => ?_
   exact .here (0, [], k14, k14) (.of (.cons rfl (.cons rfl (.cons rfl (.cons (svI (show (0) = ((0 : Int)) by first | rfl | omega | exact wrap_le (by omega) (by omega) | (rw [wrap_le (by omega) (by omega)]; omega))) .nil)))) (.cons (rowE (show [] = List.map i64c ([]) by first | with_reducible rfl | rfl)) .nil)) (show 0 ≤ l.length ∧ kdS d l 0 = some [] by exact ⟨by omega, rfl⟩)
  ·rintro ⟨j, p, q12, q13⟩ hI
   have hI : j ≤ l.length ∧ kdS d l j = some p := hI
   have hp9 := kdS_len hI.2
   have ht9 := takesL_len (l.getD j default).op
   dsimp only
   refine .seq <| .rs fun k15 => .bi rfl <| .z <| .seq ?_
   refine .cond (t := decide ((j : Int) < (l.length : Int))) rfl (fun c1 => ?_) (fun c1 => ?_)
   ·have c1 := of_decide_eq_true c1
    refine .skip <| .seq <| .block <| .seq <| .rs fun k16 => .g (fun _ τ => ⟨_, .indexAddr (.no rfl) rfl (j) t41 rfl t76 rfl rfl rfl (.d _ _) rfl rfl rfl (map_get (by omega)) rfl rfl τ⟩) <| .lda t76 rfl (.d _) rfl <| .g (fun _ τ => ⟨_, .alloc (.no rfl) rfl z76 rfl rfl rfl τ⟩) <| .g (fun _ τ => ⟨_, .store (.no rfl) rfl t76 rfl rfl rfl rfl rfl rfl rfl rfl rfl τ⟩) ?_
    refine .z <| .seq <| .rs fun k17 => .fp t76 t2 rfl <| .ld t2 rfl (.ptr _ _ _ _ _ rfl) rfl <| .c0 (c_takes ((l.getD j default).op)) rfl (.dd .nil) (.own [28, 0] .nil) rfl <| .as rfl <| .z <| .seq ?_
    refine .rs fun k18 => .mv rfl <| .g (fun _ τ => ⟨_, .len (.no rfl) rfl (z := (p.length : Int)) t27 rfl rfl rfl (.ref _ _ _ _ _ rfl) (map_len _ _) rfl τ⟩) <| .mv rfl <| .g (fun _ τ => ⟨_, .len (.no rfl) rfl (z := ((takesL ((l.getD j default).op)).length : Int)) t27 rfl rfl rfl (.d _ _) (map_len _ _) rfl τ⟩) <| .g (fun _ τ => ⟨_, .binN (.no rfl) rfl (show IntKind.wrap .i64 ((p.length : Int) - ((takesL ((l.getD j default).op)).length : Int)) = (p.length : Int) - ((takesL (l.getD j default).op).length : Int) by (exact wrap_le (by omega) (by omega))) rfl rfl rfl rfl rfl τ⟩) <| .as rfl <| .z <| .seq ?_
    refine .seq ?_
    refine .reg (X := Unit) (fun ζ => .of [(5, .one (.ref [51] (q12))), (7, .one (.ptr [7] (k16 + 1 + 1) 0)), (9, .one (.d (.v (.int .i64 ((p.length : Int) - ((takesL (l.getD j default).op).length : Int)))))), (20, .one (.d (.sl false 76 2 (List.map Tok.c (l))))), (21, .one (.d (.v (.int .i64 ((l.length : Int)))))), (22, .one (.d (.v (.int .i64 ((j : Int)))))), (43, .one (.d (.v (.bool ((decide (((p.length : Int) - ((takesL (l.getD j default).op).length : Int)) < 0) || !(all2 intEq (p.drop (((p.length : Int) - ((takesL (l.getD j default).op).length : Int)).toNat)) (takesL ((l.getD j default).op)))))))))] [([7], (k16 + 1 + 1, k16 + 1 + 1 + 1, .box [.d (.v (.int .i64 ((l.getD j default).op))), .d (.v (.int .i64 ((l.getD j default).n)))])), ([51], (q12, q13, .row 2 1 (List.map i64c (p))))]) [⟨[9], some 34, [], []⟩, ⟨[34], some 35, [], []⟩, ⟨[35], some 36, [], []⟩, ⟨[36, 5], some 37, [], []⟩, ⟨[36, 9], some 38, [], []⟩, ⟨[36, 37, 38], some 39, [[51]], []⟩, ⟨[36, 8], some 40, [], []⟩, ⟨[36, 39, 40], some 41, [[51]], []⟩, ⟨[36, 41], some 42, [], []⟩, ⟨[36, 42], some 43, [], []⟩] (fun k19 => ?_) ?_
    ·skip
     refine .move (.no rfl) rfl rfl rfl rfl <| .bin (.no rfl) rfl rfl rfl rfl rfl rfl <| .moveB (.no rfl) rfl rfl rfl rfl fun b20 g9_2 => ?_
     cases b20
     ·skip
      refine .move (.on rfl rfl rfl rfl rfl) rfl rfl rfl rfl <| .move (.on rfl rfl rfl rfl rfl) rfl rfl rfl rfl <| .slice (.on rfl rfl rfl rfl rfl) rfl (lv := ((p.length : Int) - ((takesL (l.getD j default).op).length : Int)).toNat) (hv := (List.map i64c (p)).length) (m := q13) t27 rfl t2 rfl rfl (.ref _ _ _ _ _ rfl) rfl (by intro _ _ h; cases h; exact ⟨_, .head _⟩) (by exact ⟨_, nat_iv (a := (p.length : Int) - ((takesL (l.getD j default).op).length : Int)) (by (first | omega | (have h9 := of_decide_eq_false g9_2; omega)))⟩) (by exact rfl) (le_map (by (first | omega | (have h9 := of_decide_eq_false g9_2; omega)))) (Nat.le_refl _) (cut_ref (L := p) i64c_e) rfl <| .move (.on rfl rfl rfl rfl rfl) rfl rfl rfl rfl ?_
      refine .call (.on rfl rfl rfl rfl rfl) rfl [[51]] [([51], (q12, q13, .row 2 1 (List.map i64c (p))))] (c_EqualN (p.drop (((p.length : Int) - ((takesL (l.getD j default).op).length : Int)).toNat)) (takesL ((l.getD j default).op))) rfl rfl rfl rfl rfl (.cons (Reads.view (.head _) (.head _)).gives (.dd .nil)) rfl rfl (fun _ => (ownCons (Owned.v _) ownNil)) (.own [41, 0] .nil) (.nil) rfl rfl rfl (AllH.get (.r rfl)) rfl rfl rfl <| .un (.on rfl rfl rfl rfl rfl) rfl rfl rfl rfl rfl <| .pick (.no rfl) rfl rfl rfl rfl rfl ?_
      exact .fin () (.of (.cons rfl (.cons rfl (.cons rfl (.cons rfl (.cons rfl (.cons rfl (.cons (svB (show (!(all2 intEq (p.drop (((p.length : Int) - ((takesL (l.getD j default).op).length : Int)).toNat)) (takesL ((l.getD j default).op)))) = ((decide (((p.length : Int) - ((takesL (l.getD j default).op).length : Int)) < 0) || !(all2 intEq (p.drop (((p.length : Int) - ((takesL (l.getD j default).op).length : Int)).toNat)) (takesL ((l.getD j default).op))))) by first | (simp only [g9_2, Bool.true_or, Bool.false_or, Bool.true_and, Bool.false_and, Bool.not_true, Bool.not_false]; done) | (simp [g9_2]; done) | (exfalso; simp_all; done))) .nil))))))) (.r rfl))
     ·skip
      refine .off rfl rfl rfl rfl rfl rfl rfl <| .off rfl rfl rfl rfl rfl rfl rfl <| .off rfl rfl rfl rfl rfl rfl rfl <| .off rfl rfl rfl rfl rfl rfl rfl <| .off rfl rfl rfl rfl rfl rfl rfl <| .off rfl rfl rfl rfl rfl rfl rfl <| .pick (.no rfl) rfl rfl rfl rfl rfl ?_
      exact .fin () (.of (.cons rfl (.cons rfl (.cons rfl (.cons rfl (.cons rfl (.cons rfl (.cons (svB (show (true) = ((decide (((p.length : Int) - ((takesL (l.getD j default).op).length : Int)) < 0) || !(all2 intEq (p.drop (((p.length : Int) - ((takesL (l.getD j default).op).length : Int)).toNat)) (takesL ((l.getD j default).op))))) by first | (simp only [g9_2, Bool.true_or, Bool.false_or, Bool.true_and, Bool.false_and, Bool.not_true, Bool.not_false]; done) | (simp [g9_2]; done) | (exfalso; simp_all; done))) .nil))))))) (.r rfl))
    intro _
    refine .cond (t := (decide (((p.length : Int) - ((takesL (l.getD j default).op).length : Int)) < 0) || !(all2 intEq (p.drop (((p.length : Int) - ((takesL (l.getD j default).op).length : Int)).toNat)) (takesL ((l.getD j default).op))))) rfl (fun c2 => ?_) (fun c2 => ?_)
    ·have c2 := (oT dT (nT id)) c2
     have hb : kdS d l (j + 1) = none := kd_noI hI.2 (ha j (by omega)) c2
     refine .seq <| .rs fun k21 => .as rfl <| .z <| .ret ?_
     exact fin0 (.inr rfl) (.one (svI (show (0) = (Expr.kind d l) by (rw [kind_none (by omega) hb]))) .nil) (.dd .nil) rfl
    ·have c2 := (oF dF (nF id)) c2
     refine .skip ?_
     refine .regD (X := Nat) (by kernel_rfl) (fun ζ => .of [(5, .one (.ref [51] (ζ))), (20, .one (.d (.sl false 76 2 (List.map Tok.c (l))))), (21, .one (.d (.v (.int .i64 ((l.length : Int)))))), (22, .one (.d (.v (.int .i64 ((j : Int))))))] [([51], (ζ, ζ, .row 2 1 (List.map i64c (p.take (((p.length : Int) - ((takesL (l.getD j default).op).length : Int)).toNat) ++ [leavesK ((l.getD j default).op)]))))]) [⟨[5], some 44, [], []⟩, ⟨[9], some 45, [], []⟩, ⟨[44, 45], some 46, [[51]], [[51]]⟩, ⟨[7], some 47, [], []⟩, ⟨[47], some 48, [[7]], []⟩, ⟨[48], some 49, [], []⟩, ⟨[49], some 50, [], [[50]]⟩, ⟨[46, 50], some 51, [[51], [50]], [[50], [51]]⟩, ⟨[51], some 5, [], []⟩] (by kernel_rfl) (fun k23 => ?_) ?_
     ·skip
      refine .move (.no rfl) rfl rfl rfl rfl <| .move (.no rfl) rfl rfl rfl rfl <| .trim (.no rfl) rfl (hv := ((p.length : Int) - ((takesL (l.getD j default).op).length : Int)).toNat) (els' := List.map i64c (p.take (((p.length : Int) - ((takesL (l.getD j default).op).length : Int)).toNat))) t27 rfl t2 rfl rfl rfl rfl (by exact ⟨_, nat_iv (a := (p.length : Int) - ((takesL (l.getD j default).op).length : Int)) (by (first | omega | (have h9 := of_decide_eq_false g9_2; omega)))⟩) (le_map (by (first | omega | (have h9 := of_decide_eq_false g9_2; omega)))) (by rw [List.map_take]) rfl <| .fieldAddrP (.no rfl) rfl t76 rfl rfl t2 rfl rfl rfl rfl <| .load (.no rfl) rfl t2 rfl rfl (.ptr _ _ _ _ _ rfl) rfl rfl rfl rfl ?_
      refine .call (.no rfl) rfl [] [] (c_leaves1 ((l.getD j default).op)) rfl rfl rfl rfl rfl (.dd .nil) rfl rfl (fun h => absurd rfl h) (.own [49, 0] .nil) (.nil) rfl rfl rfl (by simp) rfl rfl rfl <| .buildSlice (.no rfl) rfl (els := [[.v (.int .i64 (leavesK ((l.getD j default).op)))]]) t27 rfl z2 rfl rfl rfl rfl rfl rfl rfl rfl (by simp [i2]) (.cons _ _ _ _ _ _ (.d _) .nil) rfl rfl rfl <| .append (.no rfl) rfl (l3 := List.map i64c (p.take (((p.length : Int) - ((takesL (l.getD j default).op).length : Int)).toNat) ++ [leavesK ((l.getD j default).op)])) t27 rfl z2 rfl rfl rfl rfl rfl rfl rfl rfl (.ref _ _ _ _ rfl) (.take _ _ _ _ _ rfl) rfl (by first | (simp [i2]; omega) | (simp [i3]; omega)) (map_snoc _ _ _) rfl rfl <| .assign (.no rfl) rfl rfl rfl rfl ?_
      exact .fin (k23 + 1 + 1 + 1 + 1 + 1 + 1 + 1) (.of (.r rfl) (.r rfl))
     intro g24
     refine .rs fun k25 => .bi rfl <| .mv rfl <| .z ?_
     exact .here ((j + 1), (p.take ((p.length : Int) - ((takesL (l.getD j default).op).length : Int)).toNat ++ [leavesK (l.getD j default).op]), g24, g24) (.of (.cons rfl (.cons rfl (.cons rfl (.cons (svI (show (IntKind.wrap .i64 ((j : Int) + 1)) = (((j + 1) : Int)) by first | rfl | omega | exact wrap_le (by omega) (by omega) | (rw [wrap_le (by omega) (by omega)]; omega))) .nil)))) (.cons (rowE (show List.map i64c (p.take (((p.length : Int) - ((takesL (l.getD j default).op).length : Int)).toNat) ++ [leavesK ((l.getD j default).op)]) = List.map i64c ((p.take ((p.length : Int) - ((takesL (l.getD j default).op).length : Int)).toNat ++ [leavesK (l.getD j default).op])) by first | with_reducible rfl | rfl)) .nil)) ⟨(show (j + 1) ≤ l.length ∧ kdS d l (j + 1) = some (p.take ((p.length : Int) - ((takesL (l.getD j default).op).length : Int)).toNat ++ [leavesK (l.getD j default).op]) by exact ⟨by omega, kd_goI hI.2 (ha j (by omega)) c2⟩), (show l.length - (j + 1) < l.length - j by omega)⟩
   ·have c1 := of_decide_eq_false c1
    refine .exit <| .seq <| .seq <| .rs fun k26 => .mv rfl <| .g (fun _ τ => ⟨_, .len (.no rfl) rfl (z := (p.length : Int)) t27 rfl rfl rfl (.ref _ _ _ _ _ rfl) (map_len _ _) rfl τ⟩) <| .bi rfl <| .z ?_
    refine .cond (t := (p.length : Int) != 1) rfl (fun c3 => ?_) (fun c3 => ?_)
    ·have c3 := (by simpa using c3 : ¬ ((p.length : Int) = 1))
     refine .seq <| .rs fun k27 => .as rfl <| .z <| .ret ?_
     exact fin0 (.inr rfl) (.one (svI (show (0) = (Expr.kind d l) by (rw [kind_many (by omega) hI.2 (by omega)]))) .nil) (.dd .nil) rfl
    ·have c3 := (by simpa using c3 : (p.length : Int) = 1)
     refine .skip <| .seq <| .rs fun k29 => .mv rfl <| .g (fun _ τ => ⟨_, .indexAddr (.no rfl) rfl (0) t27 rfl t2 rfl rfl rfl (.ref _ _ _ _ _ rfl) rfl rfl rfl (map_get (by omega)) rfl rfl τ⟩) <| .ld t2 rfl (.eptr _ _ _ _ _ _ _ _ _ rfl (map_get (by omega))) rfl <| .as rfl <| .z <| .ret ?_
     exact fin0 (.inr rfl) (.one (svI (show (p.getD 0 default) = (Expr.kind d l) by (rw [kind_one (by omega) (by omega) hI.2 (by omega)]))) .nil) (.dd .nil) rfl
end Go.Proofs

namespace Go.Proofs
open Go Go.Proofs Go.Ev

def i152 : TI := ⟨.int .u64, 1, 8, [.int .u64 0]⟩
theorem t152 : TyOk Tryz.prog 152 i152 := ⟨Tryz.underlying152, by kernel_rfl⟩
theorem z152 : ZOk Tryz.prog 152 i152 := ⟨t152, rfl⟩
theorem c_sNumAdd (a : Int) (b : Int) : Trip Tryz.prog 91 [(false, 1), (false, 1)] ([.v (.int .i64 (a))] ++ [.v (.int .i64 (b))]) [(false, 1), (false, 1)] [.v (.int .i64 (addV a b)), .v (.int .i64 (addO a b))] [] := by
 refine Trip.of Tryz.func91 (by decide) (c := _) rfl rfl (Nat.le_of_ble_eq_true rfl) rfl (AftOk.nil _) <| .seq <| .rs fun k1 => .as rfl <| .as rfl <| .z <| .seq <| .block <| .seq ?_
 refine .reg (X := Unit) (fun ζ => .of [(0, .one (.d (.v (.int .i64 (a))))), (1, .one (.d (.v (.int .i64 (b))))), (6, .one (.d (.v (.bool ((decide (b > 0) && decide (a > (IntKind.wrap .i64 (9223372036854775807 - b)))))))))] []) [⟨[1], some 7, [], []⟩, ⟨[7], some 8, [], []⟩, ⟨[8], some 9, [], []⟩, ⟨[9, 0], some 10, [], []⟩, ⟨[9, 1], some 11, [], []⟩, ⟨[9, 11], some 12, [], []⟩, ⟨[9, 10, 12], some 13, [], []⟩, ⟨[9, 13], some 14, [], []⟩, ⟨[14], some 6, [], []⟩] (fun k2 => ?_) ?_
 ·skip
  refine .move (.no rfl) rfl rfl rfl rfl <| .bin (.no rfl) rfl rfl rfl rfl rfl rfl <| .moveB (.no rfl) rfl rfl rfl rfl fun b3 g1_2 => ?_
  cases b3
  ·skip
   refine .off rfl rfl rfl rfl rfl rfl rfl <| .off rfl rfl rfl rfl rfl rfl rfl <| .off rfl rfl rfl rfl rfl rfl rfl <| .off rfl rfl rfl rfl rfl rfl rfl <| .pick (.no rfl) rfl rfl rfl rfl rfl <| .assign (.no rfl) rfl rfl rfl rfl ?_
   exact .fin () (.of (.cons rfl (.cons rfl (.cons (svB (show (false) = ((decide (b > 0) && decide (a > (IntKind.wrap .i64 (9223372036854775807 - b))))) by first | (simp only [g1_2, Bool.true_or, Bool.false_or, Bool.true_and, Bool.false_and, Bool.not_true, Bool.not_false]; done) | (simp [g1_2]; done) | (exfalso; simp_all; done))) .nil))) .nil)
  ·skip
   refine .move (.on rfl rfl rfl rfl rfl) rfl rfl rfl rfl <| .move (.on rfl rfl rfl rfl rfl) rfl rfl rfl rfl <| .bin (.on rfl rfl rfl rfl rfl) rfl rfl rfl rfl rfl rfl <| .bin (.on rfl rfl rfl rfl rfl) rfl rfl rfl rfl rfl rfl <| .pick (.no rfl) rfl rfl rfl rfl rfl <| .assign (.no rfl) rfl rfl rfl rfl ?_
   exact .fin () (.of (.cons rfl (.cons rfl (.cons (svB (show (decide (a > (IntKind.wrap .i64 (9223372036854775807 - b)))) = ((decide (b > 0) && decide (a > (IntKind.wrap .i64 (9223372036854775807 - b))))) by first | (simp only [g1_2, Bool.true_or, Bool.false_or, Bool.true_and, Bool.false_and, Bool.not_true, Bool.not_false]; done) | (simp [g1_2]; done) | (exfalso; simp_all; done))) .nil))) .nil)
 intro _
 refine .cond (t := (decide (b > 0) && decide (a > (IntKind.wrap .i64 (9223372036854775807 - b))))) rfl (fun c0 => ?_) (fun c0 => ?_)
 ·have c0 := (aT dT dT) c0
  refine .seq <| .rs fun k4 => .as rfl <| .as rfl <| .z <| .ret ?_
  exact fin0 (.inr rfl) (.one (svI (show (0) = (addV a b) by (first | exact (add_1 c0).1.symm | exact (add_1 c0).2.symm))) (.one (svI (show (1) = (addO a b) by (first | exact (add_1 c0).1.symm | exact (add_1 c0).2.symm))) .nil)) (.dd (.dd .nil)) rfl
 ·have c0 := (aF dF dF) c0
  refine .seq ?_
  refine .reg (X := Unit) (fun ζ => .of [(0, .one (.d (.v (.int .i64 (a))))), (1, .one (.d (.v (.int .i64 (b))))), (15, .one (.d (.v (.bool ((decide (b < 0) && decide (a < (IntKind.wrap .i64 ((-9223372036854775808) - b)))))))))] []) [⟨[1], some 16, [], []⟩, ⟨[16], some 17, [], []⟩, ⟨[17], some 18, [], []⟩, ⟨[18, 0], some 19, [], []⟩, ⟨[18, 1], some 20, [], []⟩, ⟨[18, 20], some 21, [], []⟩, ⟨[18, 19, 21], some 22, [], []⟩, ⟨[18, 22], some 23, [], []⟩, ⟨[23], some 15, [], []⟩] (fun k7 => ?_) ?_
  ·skip
   refine .move (.no rfl) rfl rfl rfl rfl <| .bin (.no rfl) rfl rfl rfl rfl rfl rfl <| .moveB (.no rfl) rfl rfl rfl rfl fun b8 g3_2 => ?_
   cases b8
   ·skip
    refine .off rfl rfl rfl rfl rfl rfl rfl <| .off rfl rfl rfl rfl rfl rfl rfl <| .off rfl rfl rfl rfl rfl rfl rfl <| .off rfl rfl rfl rfl rfl rfl rfl <| .pick (.no rfl) rfl rfl rfl rfl rfl <| .assign (.no rfl) rfl rfl rfl rfl ?_
    exact .fin () (.of (.cons rfl (.cons rfl (.cons (svB (show (false) = ((decide (b < 0) && decide (a < (IntKind.wrap .i64 ((-9223372036854775808) - b))))) by first | (simp only [g3_2, Bool.true_or, Bool.false_or, Bool.true_and, Bool.false_and, Bool.not_true, Bool.not_false]; done) | (simp [g3_2]; done) | (exfalso; simp_all; done))) .nil))) .nil)
   ·skip
    refine .move (.on rfl rfl rfl rfl rfl) rfl rfl rfl rfl <| .move (.on rfl rfl rfl rfl rfl) rfl rfl rfl rfl <| .bin (.on rfl rfl rfl rfl rfl) rfl rfl rfl rfl rfl rfl <| .bin (.on rfl rfl rfl rfl rfl) rfl rfl rfl rfl rfl rfl <| .pick (.no rfl) rfl rfl rfl rfl rfl <| .assign (.no rfl) rfl rfl rfl rfl ?_
    exact .fin () (.of (.cons rfl (.cons rfl (.cons (svB (show (decide (a < (IntKind.wrap .i64 ((-9223372036854775808) - b)))) = ((decide (b < 0) && decide (a < (IntKind.wrap .i64 ((-9223372036854775808) - b))))) by first | (simp only [g3_2, Bool.true_or, Bool.false_or, Bool.true_and, Bool.false_and, Bool.not_true, Bool.not_false]; done) | (simp [g3_2]; done) | (exfalso; simp_all; done))) .nil))) .nil)
  intro _
  refine .cond (t := (decide (b < 0) && decide (a < (IntKind.wrap .i64 ((-9223372036854775808) - b))))) rfl (fun c1 => ?_) (fun c1 => ?_)
  ·have c1 := (aT dT dT) c1
   refine .seq <| .rs fun k9 => .as rfl <| .as rfl <| .z <| .ret ?_
   exact fin0 (.inr rfl) (.one (svI (show (0) = (addV a b) by (first | exact (add_2 c0 c1).1.symm | exact (add_2 c0 c1).2.symm))) (.one (svI (show (-1) = (addO a b) by (first | exact (add_2 c0 c1).1.symm | exact (add_2 c0 c1).2.symm))) .nil)) (.dd (.dd .nil)) rfl
  ·have c1 := (aF dF dF) c1
   refine .skip <| .seq <| .rs fun k12 => .mv rfl <| .mv rfl <| .bi rfl <| .as rfl <| .as rfl <| .z ?_
   refine .ret ?_
   exact fin0 (.inr rfl) (.one (svI (show (IntKind.wrap .i64 (a + b)) = (addV a b) by (first | exact (add_3 c0 c1).1.symm | exact (add_3 c0 c1).2.symm))) (.one (svI (show (0) = (addO a b) by (first | exact (add_3 c0 c1).1.symm | exact (add_3 c0 c1).2.symm))) .nil)) (.dd (.dd .nil)) rfl
theorem c_side (is : Bool) : Trip Tryz.prog 142 [(false, 1)] ([.v (.bool (is))]) [(false, 1)] [.v (.int .i64 (bif is then -1 else 1))] [] := by
 refine Trip.of Tryz.func142 (by decide) (c := _) rfl rfl (Nat.le_of_ble_eq_true rfl) rfl (AftOk.nil _) <| .seq <| .rs fun k1 => .as rfl <| .z <| .seq <| .seq <| .rs fun k2 => .mv rfl ?_
 refine .z ?_
 refine .cond (t := is) rfl (fun c0 => ?_) (fun c0 => ?_)
 ·have c0 := c0
  refine .seq <| .rs fun k3 => .as rfl <| .z <| .ret ?_
  exact fin0 (.inr rfl) (.one (svI (show (-1) = (bif is then -1 else 1) by (rw [c0]; rfl))) .nil) (.dd .nil) rfl
 ·have c0 := c0
  refine .skip <| .seq <| .rs fun k5 => .as rfl <| .z <| .ret ?_
  exact fin0 (.inr rfl) (.one (svI (show (1) = (bif is then -1 else 1) by (rw [c0]; rfl))) .nil) (.dd .nil) rfl
theorem c_NumAdd (a : Int) (b : Int) : Trip Tryz.prog 110 [(false, 1), (false, 1)] ([.v (.int .i64 (a))] ++ [.v (.int .i64 (b))]) [(false, 1), (false, 1)] [.v (.int .i64 (addV a b)), .v (.int .i64 (addO a b))] [] := by
 refine Trip.of Tryz.func110 (by decide) (c := _) rfl rfl (Nat.le_of_ble_eq_true rfl) rfl (AftOk.nil _) <| .seq <| .rs fun k1 => .as rfl <| .as rfl <| .z <| .seq <| .seq ?_
 refine .reg (X := Unit) (fun ζ => .of [(0, .one (.d (.v (.int .i64 (a))))), (1, .one (.d (.v (.int .i64 (b))))), (23, .one (.d (.v (.bool (((decide (b > 0) && decide (a > (IntKind.wrap .i64 (9223372036854775807 - b)))) || (decide (b < 0) && decide (a < (IntKind.wrap .i64 ((-9223372036854775808) - b))))))))))] []) [⟨[1], some 6, [], []⟩, ⟨[6], some 7, [], []⟩, ⟨[7], some 8, [], []⟩, ⟨[8, 0], some 9, [], []⟩, ⟨[8, 1], some 10, [], []⟩, ⟨[8, 10], some 11, [], []⟩, ⟨[8, 9, 11], some 12, [], []⟩, ⟨[8, 12], some 13, [], []⟩, ⟨[13], some 14, [], []⟩, ⟨[14, 1], some 15, [], []⟩, ⟨[14, 15], some 16, [], []⟩, ⟨[14, 16], some 17, [], []⟩, ⟨[17, 0], some 18, [], []⟩, ⟨[17, 1], some 19, [], []⟩, ⟨[17, 19], some 20, [], []⟩, ⟨[17, 18, 20], some 21, [], []⟩, ⟨[14, 17, 21], some 22, [], []⟩, ⟨[14, 22], some 23, [], []⟩] (fun k2 => ?_) ?_
 ·skip
  refine .move (.no rfl) rfl rfl rfl rfl <| .bin (.no rfl) rfl rfl rfl rfl rfl rfl <| .moveB (.no rfl) rfl rfl rfl rfl fun b3 g1_2 => ?_
  cases b3
  ·skip
   refine .off rfl rfl rfl rfl rfl rfl rfl <| .off rfl rfl rfl rfl rfl rfl rfl <| .off rfl rfl rfl rfl rfl rfl rfl <| .off rfl rfl rfl rfl rfl rfl rfl <| .pick (.no rfl) rfl rfl rfl rfl rfl <| .move (.no rfl) rfl rfl rfl rfl <| .move (.on rfl rfl rfl rfl rfl) rfl rfl rfl rfl <| .bin (.on rfl rfl rfl rfl rfl) rfl rfl rfl rfl rfl rfl <| .moveB (.on rfl rfl rfl rfl rfl) rfl rfl rfl rfl fun b4 g1_11 => ?_
   cases b4
   ·skip
    refine .off rfl rfl rfl rfl rfl rfl rfl <| .off rfl rfl rfl rfl rfl rfl rfl <| .off rfl rfl rfl rfl rfl rfl rfl <| .off rfl rfl rfl rfl rfl rfl rfl <| .pick (.on rfl rfl rfl rfl rfl) rfl rfl rfl rfl rfl <| .pick (.no rfl) rfl rfl rfl rfl rfl ?_
    exact .fin () (.of (.cons rfl (.cons rfl (.cons (svB (show (false) = (((decide (b > 0) && decide (a > (IntKind.wrap .i64 (9223372036854775807 - b)))) || (decide (b < 0) && decide (a < (IntKind.wrap .i64 ((-9223372036854775808) - b)))))) by first | (simp only [g1_2, g1_11, Bool.true_or, Bool.false_or, Bool.true_and, Bool.false_and, Bool.not_true, Bool.not_false]; done) | (simp [g1_2, g1_11]; done) | (exfalso; simp_all; done))) .nil))) .nil)
   ·skip
    refine .move (.on rfl rfl rfl rfl rfl) rfl rfl rfl rfl <| .move (.on rfl rfl rfl rfl rfl) rfl rfl rfl rfl <| .bin (.on rfl rfl rfl rfl rfl) rfl rfl rfl rfl rfl rfl <| .bin (.on rfl rfl rfl rfl rfl) rfl rfl rfl rfl rfl rfl <| .pick (.on rfl rfl rfl rfl rfl) rfl rfl rfl rfl rfl <| .pick (.no rfl) rfl rfl rfl rfl rfl ?_
    exact .fin () (.of (.cons rfl (.cons rfl (.cons (svB (show (decide (a < (IntKind.wrap .i64 ((-9223372036854775808) - b)))) = (((decide (b > 0) && decide (a > (IntKind.wrap .i64 (9223372036854775807 - b)))) || (decide (b < 0) && decide (a < (IntKind.wrap .i64 ((-9223372036854775808) - b)))))) by first | (simp only [g1_2, g1_11, Bool.true_or, Bool.false_or, Bool.true_and, Bool.false_and, Bool.not_true, Bool.not_false]; done) | (simp [g1_2, g1_11]; done) | (exfalso; simp_all; done))) .nil))) .nil)
  ·skip
   refine .move (.on rfl rfl rfl rfl rfl) rfl rfl rfl rfl <| .move (.on rfl rfl rfl rfl rfl) rfl rfl rfl rfl <| .bin (.on rfl rfl rfl rfl rfl) rfl rfl rfl rfl rfl rfl <| .bin (.on rfl rfl rfl rfl rfl) rfl rfl rfl rfl rfl rfl <| .pick (.no rfl) rfl rfl rfl rfl rfl <| .moveB (.no rfl) rfl rfl rfl rfl fun b5 g1_8 => ?_
   cases b5
   ·skip
    refine .move (.on rfl rfl rfl rfl rfl) rfl rfl rfl rfl <| .bin (.on rfl rfl rfl rfl rfl) rfl rfl rfl rfl rfl rfl <| .moveB (.on rfl rfl rfl rfl rfl) rfl rfl rfl rfl fun b6 g1_11 => ?_
    cases b6
    ·skip
     refine .off rfl rfl rfl rfl rfl rfl rfl <| .off rfl rfl rfl rfl rfl rfl rfl <| .off rfl rfl rfl rfl rfl rfl rfl <| .off rfl rfl rfl rfl rfl rfl rfl <| .pick (.on rfl rfl rfl rfl rfl) rfl rfl rfl rfl rfl <| .pick (.no rfl) rfl rfl rfl rfl rfl ?_
     exact .fin () (.of (.cons rfl (.cons rfl (.cons (svB (show (false) = (((decide (b > 0) && decide (a > (IntKind.wrap .i64 (9223372036854775807 - b)))) || (decide (b < 0) && decide (a < (IntKind.wrap .i64 ((-9223372036854775808) - b)))))) by first | (simp only [g1_2, g1_8, g1_11, Bool.true_or, Bool.false_or, Bool.true_and, Bool.false_and, Bool.not_true, Bool.not_false]; done) | (simp [g1_2, g1_8, g1_11]; done) | (exfalso; simp_all; done))) .nil))) .nil)
    ·skip
     refine .move (.on rfl rfl rfl rfl rfl) rfl rfl rfl rfl <| .move (.on rfl rfl rfl rfl rfl) rfl rfl rfl rfl <| .bin (.on rfl rfl rfl rfl rfl) rfl rfl rfl rfl rfl rfl <| .bin (.on rfl rfl rfl rfl rfl) rfl rfl rfl rfl rfl rfl <| .pick (.on rfl rfl rfl rfl rfl) rfl rfl rfl rfl rfl <| .pick (.no rfl) rfl rfl rfl rfl rfl ?_
     exact .fin () (.of (.cons rfl (.cons rfl (.cons (svB (show (decide (a < (IntKind.wrap .i64 ((-9223372036854775808) - b)))) = (((decide (b > 0) && decide (a > (IntKind.wrap .i64 (9223372036854775807 - b)))) || (decide (b < 0) && decide (a < (IntKind.wrap .i64 ((-9223372036854775808) - b)))))) by first | (simp only [g1_2, g1_8, g1_11, Bool.true_or, Bool.false_or, Bool.true_and, Bool.false_and, Bool.not_true, Bool.not_false]; done) | (simp [g1_2, g1_8, g1_11]; done) | (exfalso; simp_all; done))) .nil))) .nil)
   ·skip
    refine .off rfl rfl rfl rfl rfl rfl rfl <| .off rfl rfl rfl rfl rfl rfl rfl <| .off rfl rfl rfl rfl rfl rfl rfl <| .off' rfl rfl rfl rfl rfl rfl <| .off' rfl rfl rfl rfl rfl rfl <| .off' rfl rfl rfl rfl rfl rfl <| .off' rfl rfl rfl rfl rfl rfl <| .off rfl rfl rfl rfl rfl rfl rfl <| .pick (.no rfl) rfl rfl rfl rfl rfl ?_
    exact .fin () (.of (.cons rfl (.cons rfl (.cons (svB (show (true) = (((decide (b > 0) && decide (a > (IntKind.wrap .i64 (9223372036854775807 - b)))) || (decide (b < 0) && decide (a < (IntKind.wrap .i64 ((-9223372036854775808) - b)))))) by first | (simp only [g1_2, g1_8, Bool.true_or, Bool.false_or, Bool.true_and, Bool.false_and, Bool.not_true, Bool.not_false]; done) | (simp [g1_2, g1_8]; done) | (exfalso; simp_all; done))) .nil))) .nil)
 intro _
 refine .cond (t := ((decide (b > 0) && decide (a > (IntKind.wrap .i64 (9223372036854775807 - b)))) || (decide (b < 0) && decide (a < (IntKind.wrap .i64 ((-9223372036854775808) - b)))))) rfl (fun c0 => ?_) (fun c0 => ?_)
 ·have c0 := (oT (aT dT dT) (aT dT dT)) c0
  refine .seq <| .rs fun k7 => .mv rfl <| .bi rfl <| .c0 (c_side (decide (b < 0))) rfl (.dd .nil) (.own [26, 0] .nil) rfl <| .as rfl <| .as rfl <| .z <| .ret ?_
  exact fin0 (.inr rfl) (.one (svI (show (0) = (addV a b) by (rcases c0 with h | h; (first | exact (add_1 h).1.symm | (rw [(add_1 h).2, decide_eq_false (by omega)]; rfl)); (first | exact (add_2 (by omega) h).1.symm | (rw [(add_2 (by omega) h).2, decide_eq_true h.1]; rfl))))) (.one (svI (show (bif (decide (b < 0)) then -1 else 1) = (addO a b) by (rcases c0 with h | h; (first | exact (add_1 h).1.symm | (rw [(add_1 h).2, decide_eq_false (by omega)]; rfl)); (first | exact (add_2 (by omega) h).1.symm | (rw [(add_2 (by omega) h).2, decide_eq_true h.1]; rfl))))) .nil)) (.dd (.dd .nil)) rfl
 ·have c0 := (oF (aF dF dF) (aF dF dF)) c0
  refine .skip <| .seq <| .rs fun k10 => .mv rfl <| .mv rfl <| .bi rfl <| .as rfl <| .as rfl <| .z ?_
  refine .ret ?_
  exact fin0 (.inr rfl) (.one (svI (show (IntKind.wrap .i64 (a + b)) = (addV a b) by (first | exact (add_3 c0.1 c0.2).1.symm | exact (add_3 c0.1 c0.2).2.symm))) (.one (svI (show (0) = (addO a b) by (first | exact (add_3 c0.1 c0.2).1.symm | exact (add_3 c0.1 c0.2).2.symm))) .nil)) (.dd (.dd .nil)) rfl
theorem c_sNumSub (a : Int) (b : Int) (ha : Fit a) (hb : Fit b) : Trip Tryz.prog 92 [(false, 1), (false, 1)] ([.v (.int .i64 (a))] ++ [.v (.int .i64 (b))]) [(false, 1), (false, 1)] [.v (.int .i64 (fitN (a - b))), .v (.int .i64 (fitO (a - b)))] [] := by
 refine Trip.of Tryz.func92 (by decide) (c := _) rfl rfl (Nat.le_of_ble_eq_true rfl) rfl (AftOk.nil _) <| .seq <| .rs fun k1 => .as rfl <| .as rfl <| .z <| .seq <| .block <| .seq ?_
 refine .reg (X := Unit) (fun ζ => .of [(0, .one (.d (.v (.int .i64 (a))))), (1, .one (.d (.v (.int .i64 (b))))), (6, .one (.d (.v (.bool ((decide (b < 0) && decide (a > (IntKind.wrap .i64 (9223372036854775807 + b)))))))))] []) [⟨[1], some 7, [], []⟩, ⟨[7], some 8, [], []⟩, ⟨[8], some 9, [], []⟩, ⟨[9, 0], some 10, [], []⟩, ⟨[9, 1], some 11, [], []⟩, ⟨[9, 11], some 12, [], []⟩, ⟨[9, 10, 12], some 13, [], []⟩, ⟨[9, 13], some 14, [], []⟩, ⟨[14], some 6, [], []⟩] (fun k2 => ?_) ?_
 ·skip
  refine .move (.no rfl) rfl rfl rfl rfl <| .bin (.no rfl) rfl rfl rfl rfl rfl rfl <| .moveB (.no rfl) rfl rfl rfl rfl fun b3 g1_2 => ?_
  cases b3
  ·skip
   refine .off rfl rfl rfl rfl rfl rfl rfl <| .off rfl rfl rfl rfl rfl rfl rfl <| .off rfl rfl rfl rfl rfl rfl rfl <| .off rfl rfl rfl rfl rfl rfl rfl <| .pick (.no rfl) rfl rfl rfl rfl rfl <| .assign (.no rfl) rfl rfl rfl rfl ?_
   exact .fin () (.of (.cons rfl (.cons rfl (.cons (svB (show (false) = ((decide (b < 0) && decide (a > (IntKind.wrap .i64 (9223372036854775807 + b))))) by first | (simp only [g1_2, Bool.true_or, Bool.false_or, Bool.true_and, Bool.false_and, Bool.not_true, Bool.not_false]; done) | (simp [g1_2]; done) | (exfalso; simp_all; done))) .nil))) .nil)
  ·skip
   refine .move (.on rfl rfl rfl rfl rfl) rfl rfl rfl rfl <| .move (.on rfl rfl rfl rfl rfl) rfl rfl rfl rfl <| .bin (.on rfl rfl rfl rfl rfl) rfl rfl rfl rfl rfl rfl <| .bin (.on rfl rfl rfl rfl rfl) rfl rfl rfl rfl rfl rfl <| .pick (.no rfl) rfl rfl rfl rfl rfl <| .assign (.no rfl) rfl rfl rfl rfl ?_
   exact .fin () (.of (.cons rfl (.cons rfl (.cons (svB (show (decide (a > (IntKind.wrap .i64 (9223372036854775807 + b)))) = ((decide (b < 0) && decide (a > (IntKind.wrap .i64 (9223372036854775807 + b))))) by first | (simp only [g1_2, Bool.true_or, Bool.false_or, Bool.true_and, Bool.false_and, Bool.not_true, Bool.not_false]; done) | (simp [g1_2]; done) | (exfalso; simp_all; done))) .nil))) .nil)
 intro _
 refine .cond (t := (decide (b < 0) && decide (a > (IntKind.wrap .i64 (9223372036854775807 + b))))) rfl (fun c0 => ?_) (fun c0 => ?_)
 ·have c0 := (aT dT dT) c0
  refine .seq <| .rs fun k4 => .as rfl <| .as rfl <| .z <| .ret ?_
  exact fin0 (.inr rfl) (.one (svI (show (0) = (fitN (a - b)) by (first | exact (sub_1 ha hb c0).1.symm | exact (sub_1 ha hb c0).2.symm))) (.one (svI (show (1) = (fitO (a - b)) by (first | exact (sub_1 ha hb c0).1.symm | exact (sub_1 ha hb c0).2.symm))) .nil)) (.dd (.dd .nil)) rfl
 ·have c0 := (aF dF dF) c0
  refine .seq ?_
  refine .reg (X := Unit) (fun ζ => .of [(0, .one (.d (.v (.int .i64 (a))))), (1, .one (.d (.v (.int .i64 (b))))), (15, .one (.d (.v (.bool ((decide (b > 0) && decide (a < (IntKind.wrap .i64 ((-9223372036854775808) + b)))))))))] []) [⟨[1], some 16, [], []⟩, ⟨[16], some 17, [], []⟩, ⟨[17], some 18, [], []⟩, ⟨[18, 0], some 19, [], []⟩, ⟨[18, 1], some 20, [], []⟩, ⟨[18, 20], some 21, [], []⟩, ⟨[18, 19, 21], some 22, [], []⟩, ⟨[18, 22], some 23, [], []⟩, ⟨[23], some 15, [], []⟩] (fun k7 => ?_) ?_
  ·skip
   refine .move (.no rfl) rfl rfl rfl rfl <| .bin (.no rfl) rfl rfl rfl rfl rfl rfl <| .moveB (.no rfl) rfl rfl rfl rfl fun b8 g3_2 => ?_
   cases b8
   ·skip
    refine .off rfl rfl rfl rfl rfl rfl rfl <| .off rfl rfl rfl rfl rfl rfl rfl <| .off rfl rfl rfl rfl rfl rfl rfl <| .off rfl rfl rfl rfl rfl rfl rfl <| .pick (.no rfl) rfl rfl rfl rfl rfl <| .assign (.no rfl) rfl rfl rfl rfl ?_
    exact .fin () (.of (.cons rfl (.cons rfl (.cons (svB (show (false) = ((decide (b > 0) && decide (a < (IntKind.wrap .i64 ((-9223372036854775808) + b))))) by first | (simp only [g3_2, Bool.true_or, Bool.false_or, Bool.true_and, Bool.false_and, Bool.not_true, Bool.not_false]; done) | (simp [g3_2]; done) | (exfalso; simp_all; done))) .nil))) .nil)
   ·skip
    refine .move (.on rfl rfl rfl rfl rfl) rfl rfl rfl rfl <| .move (.on rfl rfl rfl rfl rfl) rfl rfl rfl rfl <| .bin (.on rfl rfl rfl rfl rfl) rfl rfl rfl rfl rfl rfl <| .bin (.on rfl rfl rfl rfl rfl) rfl rfl rfl rfl rfl rfl <| .pick (.no rfl) rfl rfl rfl rfl rfl <| .assign (.no rfl) rfl rfl rfl rfl ?_
    exact .fin () (.of (.cons rfl (.cons rfl (.cons (svB (show (decide (a < (IntKind.wrap .i64 ((-9223372036854775808) + b)))) = ((decide (b > 0) && decide (a < (IntKind.wrap .i64 ((-9223372036854775808) + b))))) by first | (simp only [g3_2, Bool.true_or, Bool.false_or, Bool.true_and, Bool.false_and, Bool.not_true, Bool.not_false]; done) | (simp [g3_2]; done) | (exfalso; simp_all; done))) .nil))) .nil)
  intro _
  refine .cond (t := (decide (b > 0) && decide (a < (IntKind.wrap .i64 ((-9223372036854775808) + b))))) rfl (fun c1 => ?_) (fun c1 => ?_)
  ·have c1 := (aT dT dT) c1
   refine .seq <| .rs fun k9 => .as rfl <| .as rfl <| .z <| .ret ?_
   exact fin0 (.inr rfl) (.one (svI (show (0) = (fitN (a - b)) by (first | exact (sub_2 ha hb c1).1.symm | exact (sub_2 ha hb c1).2.symm))) (.one (svI (show (-1) = (fitO (a - b)) by (first | exact (sub_2 ha hb c1).1.symm | exact (sub_2 ha hb c1).2.symm))) .nil)) (.dd (.dd .nil)) rfl
  ·have c1 := (aF dF dF) c1
   refine .skip <| .seq <| .rs fun k12 => .mv rfl <| .mv rfl <| .bi rfl <| .as rfl <| .as rfl <| .z ?_
   refine .ret ?_
   exact fin0 (.inr rfl) (.one (svI (show (IntKind.wrap .i64 (a - b)) = (fitN (a - b)) by (first | exact (sub_3 ha hb c0 c1).1.symm | exact (sub_3 ha hb c0 c1).2.symm))) (.one (svI (show (0) = (fitO (a - b)) by (first | exact (sub_3 ha hb c0 c1).1.symm | exact (sub_3 ha hb c0 c1).2.symm))) .nil)) (.dd (.dd .nil)) rfl
theorem c_NumSub (a : Int) (b : Int) (ha : Fit a) (hb : Fit b) : Trip Tryz.prog 109 [(false, 1), (false, 1)] ([.v (.int .i64 (a))] ++ [.v (.int .i64 (b))]) [(false, 1), (false, 1)] [.v (.int .i64 (fitN (a - b))), .v (.int .i64 (fitO (a - b)))] [] := by
 refine Trip.of Tryz.func109 (by decide) (c := _) rfl rfl (Nat.le_of_ble_eq_true rfl) rfl (AftOk.nil _) <| .seq <| .rs fun k1 => .as rfl <| .as rfl <| .z <| .seq <| .seq ?_
 refine .reg (X := Unit) (fun ζ => .of [(0, .one (.d (.v (.int .i64 (a))))), (1, .one (.d (.v (.int .i64 (b))))), (23, .one (.d (.v (.bool (((decide (b < 0) && decide (a > (IntKind.wrap .i64 (9223372036854775807 + b)))) || (decide (b > 0) && decide (a < (IntKind.wrap .i64 ((-9223372036854775808) + b))))))))))] []) [⟨[1], some 6, [], []⟩, ⟨[6], some 7, [], []⟩, ⟨[7], some 8, [], []⟩, ⟨[8, 0], some 9, [], []⟩, ⟨[8, 1], some 10, [], []⟩, ⟨[8, 10], some 11, [], []⟩, ⟨[8, 9, 11], some 12, [], []⟩, ⟨[8, 12], some 13, [], []⟩, ⟨[13], some 14, [], []⟩, ⟨[14, 1], some 15, [], []⟩, ⟨[14, 15], some 16, [], []⟩, ⟨[14, 16], some 17, [], []⟩, ⟨[17, 0], some 18, [], []⟩, ⟨[17, 1], some 19, [], []⟩, ⟨[17, 19], some 20, [], []⟩, ⟨[17, 18, 20], some 21, [], []⟩, ⟨[14, 17, 21], some 22, [], []⟩, ⟨[14, 22], some 23, [], []⟩] (fun k2 => ?_) ?_
 ·skip
  refine .move (.no rfl) rfl rfl rfl rfl <| .bin (.no rfl) rfl rfl rfl rfl rfl rfl <| .moveB (.no rfl) rfl rfl rfl rfl fun b3 g1_2 => ?_
  cases b3
  ·skip
   refine .off rfl rfl rfl rfl rfl rfl rfl <| .off rfl rfl rfl rfl rfl rfl rfl <| .off rfl rfl rfl rfl rfl rfl rfl <| .off rfl rfl rfl rfl rfl rfl rfl <| .pick (.no rfl) rfl rfl rfl rfl rfl <| .move (.no rfl) rfl rfl rfl rfl <| .move (.on rfl rfl rfl rfl rfl) rfl rfl rfl rfl <| .bin (.on rfl rfl rfl rfl rfl) rfl rfl rfl rfl rfl rfl <| .moveB (.on rfl rfl rfl rfl rfl) rfl rfl rfl rfl fun b4 g1_11 => ?_
   cases b4
   ·skip
    refine .off rfl rfl rfl rfl rfl rfl rfl <| .off rfl rfl rfl rfl rfl rfl rfl <| .off rfl rfl rfl rfl rfl rfl rfl <| .off rfl rfl rfl rfl rfl rfl rfl <| .pick (.on rfl rfl rfl rfl rfl) rfl rfl rfl rfl rfl <| .pick (.no rfl) rfl rfl rfl rfl rfl ?_
    exact .fin () (.of (.cons rfl (.cons rfl (.cons (svB (show (false) = (((decide (b < 0) && decide (a > (IntKind.wrap .i64 (9223372036854775807 + b)))) || (decide (b > 0) && decide (a < (IntKind.wrap .i64 ((-9223372036854775808) + b)))))) by first | (simp only [g1_2, g1_11, Bool.true_or, Bool.false_or, Bool.true_and, Bool.false_and, Bool.not_true, Bool.not_false]; done) | (simp [g1_2, g1_11]; done) | (exfalso; simp_all; done))) .nil))) .nil)
   ·skip
    refine .move (.on rfl rfl rfl rfl rfl) rfl rfl rfl rfl <| .move (.on rfl rfl rfl rfl rfl) rfl rfl rfl rfl <| .bin (.on rfl rfl rfl rfl rfl) rfl rfl rfl rfl rfl rfl <| .bin (.on rfl rfl rfl rfl rfl) rfl rfl rfl rfl rfl rfl <| .pick (.on rfl rfl rfl rfl rfl) rfl rfl rfl rfl rfl <| .pick (.no rfl) rfl rfl rfl rfl rfl ?_
    exact .fin () (.of (.cons rfl (.cons rfl (.cons (svB (show (decide (a < (IntKind.wrap .i64 ((-9223372036854775808) + b)))) = (((decide (b < 0) && decide (a > (IntKind.wrap .i64 (9223372036854775807 + b)))) || (decide (b > 0) && decide (a < (IntKind.wrap .i64 ((-9223372036854775808) + b)))))) by first | (simp only [g1_2, g1_11, Bool.true_or, Bool.false_or, Bool.true_and, Bool.false_and, Bool.not_true, Bool.not_false]; done) | (simp [g1_2, g1_11]; done) | (exfalso; simp_all; done))) .nil))) .nil)
  ·skip
   refine .move (.on rfl rfl rfl rfl rfl) rfl rfl rfl rfl <| .move (.on rfl rfl rfl rfl rfl) rfl rfl rfl rfl <| .bin (.on rfl rfl rfl rfl rfl) rfl rfl rfl rfl rfl rfl <| .bin (.on rfl rfl rfl rfl rfl) rfl rfl rfl rfl rfl rfl <| .pick (.no rfl) rfl rfl rfl rfl rfl <| .moveB (.no rfl) rfl rfl rfl rfl fun b5 g1_8 => ?_
   cases b5
   ·skip
    refine .move (.on rfl rfl rfl rfl rfl) rfl rfl rfl rfl <| .bin (.on rfl rfl rfl rfl rfl) rfl rfl rfl rfl rfl rfl <| .moveB (.on rfl rfl rfl rfl rfl) rfl rfl rfl rfl fun b6 g1_11 => ?_
    cases b6
    ·skip
     refine .off rfl rfl rfl rfl rfl rfl rfl <| .off rfl rfl rfl rfl rfl rfl rfl <| .off rfl rfl rfl rfl rfl rfl rfl <| .off rfl rfl rfl rfl rfl rfl rfl <| .pick (.on rfl rfl rfl rfl rfl) rfl rfl rfl rfl rfl <| .pick (.no rfl) rfl rfl rfl rfl rfl ?_
     exact .fin () (.of (.cons rfl (.cons rfl (.cons (svB (show (false) = (((decide (b < 0) && decide (a > (IntKind.wrap .i64 (9223372036854775807 + b)))) || (decide (b > 0) && decide (a < (IntKind.wrap .i64 ((-9223372036854775808) + b)))))) by first | (simp only [g1_2, g1_8, g1_11, Bool.true_or, Bool.false_or, Bool.true_and, Bool.false_and, Bool.not_true, Bool.not_false]; done) | (simp [g1_2, g1_8, g1_11]; done) | (exfalso; simp_all; done))) .nil))) .nil)
    ·skip
     refine .move (.on rfl rfl rfl rfl rfl) rfl rfl rfl rfl <| .move (.on rfl rfl rfl rfl rfl) rfl rfl rfl rfl <| .bin (.on rfl rfl rfl rfl rfl) rfl rfl rfl rfl rfl rfl <| .bin (.on rfl rfl rfl rfl rfl) rfl rfl rfl rfl rfl rfl <| .pick (.on rfl rfl rfl rfl rfl) rfl rfl rfl rfl rfl <| .pick (.no rfl) rfl rfl rfl rfl rfl ?_
     exact .fin () (.of (.cons rfl (.cons rfl (.cons (svB (show (decide (a < (IntKind.wrap .i64 ((-9223372036854775808) + b)))) = (((decide (b < 0) && decide (a > (IntKind.wrap .i64 (9223372036854775807 + b)))) || (decide (b > 0) && decide (a < (IntKind.wrap .i64 ((-9223372036854775808) + b)))))) by first | (simp only [g1_2, g1_8, g1_11, Bool.true_or, Bool.false_or, Bool.true_and, Bool.false_and, Bool.not_true, Bool.not_false]; done) | (simp [g1_2, g1_8, g1_11]; done) | (exfalso; simp_all; done))) .nil))) .nil)
   ·skip
    refine .off rfl rfl rfl rfl rfl rfl rfl <| .off rfl rfl rfl rfl rfl rfl rfl <| .off rfl rfl rfl rfl rfl rfl rfl <| .off' rfl rfl rfl rfl rfl rfl <| .off' rfl rfl rfl rfl rfl rfl <| .off' rfl rfl rfl rfl rfl rfl <| .off' rfl rfl rfl rfl rfl rfl <| .off rfl rfl rfl rfl rfl rfl rfl <| .pick (.no rfl) rfl rfl rfl rfl rfl ?_
    exact .fin () (.of (.cons rfl (.cons rfl (.cons (svB (show (true) = (((decide (b < 0) && decide (a > (IntKind.wrap .i64 (9223372036854775807 + b)))) || (decide (b > 0) && decide (a < (IntKind.wrap .i64 ((-9223372036854775808) + b)))))) by first | (simp only [g1_2, g1_8, Bool.true_or, Bool.false_or, Bool.true_and, Bool.false_and, Bool.not_true, Bool.not_false]; done) | (simp [g1_2, g1_8]; done) | (exfalso; simp_all; done))) .nil))) .nil)
 intro _
 refine .cond (t := ((decide (b < 0) && decide (a > (IntKind.wrap .i64 (9223372036854775807 + b)))) || (decide (b > 0) && decide (a < (IntKind.wrap .i64 ((-9223372036854775808) + b)))))) rfl (fun c0 => ?_) (fun c0 => ?_)
 ·have c0 := (oT (aT dT dT) (aT dT dT)) c0
  refine .seq <| .rs fun k7 => .mv rfl <| .bi rfl <| .c0 (c_side (decide (b > 0))) rfl (.dd .nil) (.own [26, 0] .nil) rfl <| .as rfl <| .as rfl <| .z <| .ret ?_
  exact fin0 (.inr rfl) (.one (svI (show (0) = (fitN (a - b)) by (rcases c0 with h | h; (first | exact (sub_1 ha hb h).1.symm | (rw [(sub_1 ha hb h).2, decide_eq_false (by omega)]; rfl)); (first | exact (sub_2 ha hb h).1.symm | (rw [(sub_2 ha hb h).2, decide_eq_true h.1]; rfl))))) (.one (svI (show (bif (decide (b > 0)) then -1 else 1) = (fitO (a - b)) by (rcases c0 with h | h; (first | exact (sub_1 ha hb h).1.symm | (rw [(sub_1 ha hb h).2, decide_eq_false (by omega)]; rfl)); (first | exact (sub_2 ha hb h).1.symm | (rw [(sub_2 ha hb h).2, decide_eq_true h.1]; rfl))))) .nil)) (.dd (.dd .nil)) rfl
 ·have c0 := (oF (aF dF dF) (aF dF dF)) c0
  refine .skip <| .seq <| .rs fun k10 => .mv rfl <| .mv rfl <| .bi rfl <| .as rfl <| .as rfl <| .z ?_
  refine .ret ?_
  exact fin0 (.inr rfl) (.one (svI (show (IntKind.wrap .i64 (a - b)) = (fitN (a - b)) by (first | exact (sub_3 ha hb c0.1 c0.2).1.symm | exact (sub_3 ha hb c0.1 c0.2).2.symm))) (.one (svI (show (0) = (fitO (a - b)) by (first | exact (sub_3 ha hb c0.1 c0.2).1.symm | exact (sub_3 ha hb c0.1 c0.2).2.symm))) .nil)) (.dd (.dd .nil)) rfl
theorem c_l1Abs (a : Int) (ha : Fit a) : Trip Tryz.prog 134 [(false, 1)] ([.v (.int .i64 (a))]) [(false, 1)] [.v (.int .u64 (absN a))] [] := by
 refine Trip.of Tryz.func134 (by decide) (c := _) rfl rfl (Nat.le_of_ble_eq_true rfl) rfl (AftOk.nil _) <| .seq <| .rs fun k1 => .as rfl <| .z <| .seq <| .seq <| .rs fun k2 => .mv rfl ?_
 refine .bi rfl <| .z ?_
 refine .cond (t := decide (a < 0)) rfl (fun c0 => ?_) (fun c0 => ?_)
 ·have c0 := of_decide_eq_true c0
  refine .seq <| .rs fun k3 => .mv rfl <| .g (fun _ τ => ⟨_, .conv (.no rfl) rfl t2 t152 rfl rfl rfl rfl rfl rfl τ⟩) <| .un rfl <| .as rfl <| .z <| .ret ?_
  exact fin0 (.inr rfl) (.one (svI (show (IntKind.wrap .u64 (0 - (IntKind.wrap .u64 a))) = (absN a) by (rw [abs_1' ha c0]))) .nil) (.dd .nil) rfl
 ·have c0 := of_decide_eq_false c0
  refine .skip <| .seq <| .rs fun k5 => .mv rfl <| .g (fun _ τ => ⟨_, .conv (.no rfl) rfl t2 t152 rfl rfl rfl rfl rfl rfl τ⟩) <| .as rfl <| .z <| .ret ?_
  exact fin0 (.inr rfl) (.one (svI (show (IntKind.wrap .u64 a) = (absN a) by (rw [abs_2 ha c0]))) .nil) (.dd .nil) rfl
theorem c_distance (a : Int) (ha : Fit a) : Trip Tryz.prog 144 [(false, 1)] ([.v (.int .i64 (a))]) [(false, 1)] [.v (.int .u64 (absN a))] [] := by
 refine Trip.of Tryz.func144 (by decide) (c := _) rfl rfl (Nat.le_of_ble_eq_true rfl) rfl (AftOk.nil _) <| .seq <| .rs fun k1 => .as rfl <| .z <| .seq <| .seq <| .rs fun k2 => .mv rfl ?_
 refine .bi rfl <| .z ?_
 refine .cond (t := decide (a < 0)) rfl (fun c0 => ?_) (fun c0 => ?_)
 ·have c0 := of_decide_eq_true c0
  refine .seq <| .rs fun k3 => .mv rfl <| .g (fun _ τ => ⟨_, .conv (.no rfl) rfl t2 t152 rfl rfl rfl rfl rfl rfl τ⟩) <| .un rfl <| .as rfl <| .z <| .ret ?_
  exact fin0 (.inr rfl) (.one (svI (show (IntKind.wrap .u64 (0 - (IntKind.wrap .u64 a))) = (absN a) by (rw [abs_1' ha c0]))) .nil) (.dd .nil) rfl
 ·have c0 := of_decide_eq_false c0
  refine .skip <| .seq <| .rs fun k5 => .mv rfl <| .g (fun _ τ => ⟨_, .conv (.no rfl) rfl t2 t152 rfl rfl rfl rfl rfl rfl τ⟩) <| .as rfl <| .z <| .ret ?_
  exact fin0 (.inr rfl) (.one (svI (show (IntKind.wrap .u64 a) = (absN a) by (rw [abs_2 ha c0]))) .nil) (.dd .nil) rfl
theorem c_Mul64 (x : Int) (y : Int) (hx : 0 ≤ x ∧ x ≤ 9223372036854775808) (hy : 0 ≤ y ∧ y ≤ 9223372036854775808) : Trip Tryz.prog 143 [(false, 1), (false, 1)] ([.v (.int .u64 (x))] ++ [.v (.int .u64 (y))]) [(false, 1), (false, 1)] [.v (.int .u64 (mulHi x y)), .v (.int .u64 (mulLo x y))] [] := by
 refine Trip.of Tryz.func143 (by decide) (c := _) rfl rfl (Nat.le_of_ble_eq_true rfl) rfl (AftOk.nil _) <| .seq <| .rs fun k1 => .as rfl <| .as rfl <| .z <| .seq <| .rs fun k2 => .mv rfl ?_
 refine .bi rfl <| .as rfl <| .z <| .seq <| .rs fun k3 => .mv rfl <| .bi rfl <| .as rfl <| .z ?_
 refine .seq <| .rs fun k4 => .mv rfl <| .bi rfl <| .as rfl <| .z <| .seq <| .rs fun k5 => .mv rfl ?_
 refine .bi rfl <| .as rfl <| .z <| .seq <| .rs fun k6 => .mv rfl <| .mv rfl <| .bi rfl <| .as rfl ?_
 refine .z <| .seq <| .rs fun k7 => .mv rfl <| .mv rfl <| .bi rfl <| .mv rfl <| .bi rfl <| .bi rfl ?_
 refine .as rfl <| .z <| .seq <| .rs fun k8 => .mv rfl <| .bi rfl <| .as rfl <| .z <| .seq ?_
 refine .rs fun k9 => .mv rfl <| .bi rfl <| .as rfl <| .z <| .seq <| .rs fun k10 => .mv rfl <| .mv rfl ?_
 refine .mv rfl <| .bi rfl <| .bi rfl <| .as rfl <| .z <| .seq ?_
 refine .reg (X := Unit) (fun ζ => .of [(0, .one (.d (.v (.int .u64 (x))))), (1, .one (.d (.v (.int .u64 (y))))), (4, .one (.d (.v (.int .u64 (IntKind.wrap .u64 ((IntKind.wrap .u64 ((IntKind.wrap .u64 ((x.fdiv (2 ^ (min ((32 : Int)).toNat (IntKind.bits .u64)))) * (y.fdiv (2 ^ (min ((32 : Int)).toNat (IntKind.bits .u64)))))) + ((IntKind.wrap .u64 ((IntKind.wrap .u64 ((x.fdiv (2 ^ (min ((32 : Int)).toNat (IntKind.bits .u64)))) * (IntKind.wrap .u64 ((BitVec.ofInt (IntKind.bits .u64) y &&& BitVec.ofInt (IntKind.bits .u64) 4294967295).toNat : Int)))) + ((IntKind.wrap .u64 ((IntKind.wrap .u64 ((BitVec.ofInt (IntKind.bits .u64) x &&& BitVec.ofInt (IntKind.bits .u64) 4294967295).toNat : Int)) * (IntKind.wrap .u64 ((BitVec.ofInt (IntKind.bits .u64) y &&& BitVec.ofInt (IntKind.bits .u64) 4294967295).toNat : Int)))).fdiv (2 ^ (min ((32 : Int)).toNat (IntKind.bits .u64)))))).fdiv (2 ^ (min ((32 : Int)).toNat (IntKind.bits .u64)))))) + ((IntKind.wrap .u64 ((IntKind.wrap .u64 ((BitVec.ofInt (IntKind.bits .u64) (IntKind.wrap .u64 ((IntKind.wrap .u64 ((x.fdiv (2 ^ (min ((32 : Int)).toNat (IntKind.bits .u64)))) * (IntKind.wrap .u64 ((BitVec.ofInt (IntKind.bits .u64) y &&& BitVec.ofInt (IntKind.bits .u64) 4294967295).toNat : Int)))) + ((IntKind.wrap .u64 ((IntKind.wrap .u64 ((BitVec.ofInt (IntKind.bits .u64) x &&& BitVec.ofInt (IntKind.bits .u64) 4294967295).toNat : Int)) * (IntKind.wrap .u64 ((BitVec.ofInt (IntKind.bits .u64) y &&& BitVec.ofInt (IntKind.bits .u64) 4294967295).toNat : Int)))).fdiv (2 ^ (min ((32 : Int)).toNat (IntKind.bits .u64)))))) &&& BitVec.ofInt (IntKind.bits .u64) 4294967295).toNat : Int)) + (IntKind.wrap .u64 ((IntKind.wrap .u64 ((BitVec.ofInt (IntKind.bits .u64) x &&& BitVec.ofInt (IntKind.bits .u64) 4294967295).toNat : Int)) * (y.fdiv (2 ^ (min ((32 : Int)).toNat (IntKind.bits .u64)))))))).fdiv (2 ^ (min ((32 : Int)).toNat (IntKind.bits .u64))))))))))] []) [⟨[7], some 40, [], []⟩, ⟨[9], some 41, [], []⟩, ⟨[40, 41], some 42, [], []⟩, ⟨[13], some 43, [], []⟩, ⟨[42, 43], some 44, [], []⟩, ⟨[12], some 45, [], []⟩, ⟨[45], some 46, [], []⟩, ⟨[44, 46], some 47, [], []⟩, ⟨[47], some 4, [], []⟩] (fun k11 => ?_) ?_
 ·skip
  refine .move (.no rfl) rfl rfl rfl rfl <| .move (.no rfl) rfl rfl rfl rfl <| .bin (.no rfl) rfl rfl rfl rfl rfl rfl <| .move (.no rfl) rfl rfl rfl rfl <| .bin (.no rfl) rfl rfl rfl rfl rfl rfl <| .move (.no rfl) rfl rfl rfl rfl <| .bin (.no rfl) rfl rfl rfl rfl rfl rfl <| .bin (.no rfl) rfl rfl rfl rfl rfl rfl <| .assign (.no rfl) rfl rfl rfl rfl ?_
  exact .fin () (.of (.r rfl) .nil)
 intro _
 refine .seq <| .rs fun k12 => .mv rfl <| .mv rfl <| .bi rfl <| .as rfl <| .z <| .ret ?_
 exact fin0 (.inr rfl) (.one (svI (show (IntKind.wrap .u64 ((IntKind.wrap .u64 ((IntKind.wrap .u64 ((x.fdiv (2 ^ (min ((32 : Int)).toNat (IntKind.bits .u64)))) * (y.fdiv (2 ^ (min ((32 : Int)).toNat (IntKind.bits .u64)))))) + ((IntKind.wrap .u64 ((IntKind.wrap .u64 ((x.fdiv (2 ^ (min ((32 : Int)).toNat (IntKind.bits .u64)))) * (IntKind.wrap .u64 ((BitVec.ofInt (IntKind.bits .u64) y &&& BitVec.ofInt (IntKind.bits .u64) 4294967295).toNat : Int)))) + ((IntKind.wrap .u64 ((IntKind.wrap .u64 ((BitVec.ofInt (IntKind.bits .u64) x &&& BitVec.ofInt (IntKind.bits .u64) 4294967295).toNat : Int)) * (IntKind.wrap .u64 ((BitVec.ofInt (IntKind.bits .u64) y &&& BitVec.ofInt (IntKind.bits .u64) 4294967295).toNat : Int)))).fdiv (2 ^ (min ((32 : Int)).toNat (IntKind.bits .u64)))))).fdiv (2 ^ (min ((32 : Int)).toNat (IntKind.bits .u64)))))) + ((IntKind.wrap .u64 ((IntKind.wrap .u64 ((BitVec.ofInt (IntKind.bits .u64) (IntKind.wrap .u64 ((IntKind.wrap .u64 ((x.fdiv (2 ^ (min ((32 : Int)).toNat (IntKind.bits .u64)))) * (IntKind.wrap .u64 ((BitVec.ofInt (IntKind.bits .u64) y &&& BitVec.ofInt (IntKind.bits .u64) 4294967295).toNat : Int)))) + ((IntKind.wrap .u64 ((IntKind.wrap .u64 ((BitVec.ofInt (IntKind.bits .u64) x &&& BitVec.ofInt (IntKind.bits .u64) 4294967295).toNat : Int)) * (IntKind.wrap .u64 ((BitVec.ofInt (IntKind.bits .u64) y &&& BitVec.ofInt (IntKind.bits .u64) 4294967295).toNat : Int)))).fdiv (2 ^ (min ((32 : Int)).toNat (IntKind.bits .u64)))))) &&& BitVec.ofInt (IntKind.bits .u64) 4294967295).toNat : Int)) + (IntKind.wrap .u64 ((IntKind.wrap .u64 ((BitVec.ofInt (IntKind.bits .u64) x &&& BitVec.ofInt (IntKind.bits .u64) 4294967295).toNat : Int)) * (y.fdiv (2 ^ (min ((32 : Int)).toNat (IntKind.bits .u64)))))))).fdiv (2 ^ (min ((32 : Int)).toNat (IntKind.bits .u64)))))) = (mulHi x y) by (first | exact mul64_hi9 hx hy | exact mul64_lo9 hx hy))) (.one (svI (show (IntKind.wrap .u64 (x * y)) = (mulLo x y) by (first | exact mul64_hi9 hx hy | exact mul64_lo9 hx hy))) .nil)) (.dd (.dd .nil)) rfl
theorem c_sNumMul (a : Int) (b : Int) (ha : Fit a) (hb : Fit b) : Trip Tryz.prog 93 [(false, 1), (false, 1)] ([.v (.int .i64 (a))] ++ [.v (.int .i64 (b))]) [(false, 1), (false, 1)] [.v (.int .i64 (fitN (a * b))), .v (.int .i64 (fitO (a * b)))] [] := by
 refine Trip.of Tryz.func93 (by decide) (c := _) rfl rfl (Nat.le_of_ble_eq_true rfl) rfl (AftOk.nil _) <| .seq <| .rs fun k1 => .as rfl <| .as rfl <| .z <| .seq <| .seq ?_
 refine .reg (X := Unit) (fun ζ => .of [(0, .one (.d (.v (.int .i64 (a))))), (1, .one (.d (.v (.int .i64 (b))))), (15, .one (.d (.v (.bool ((a == 0 || b == 0))))))] []) [⟨[0], some 10, [], []⟩, ⟨[10], some 11, [], []⟩, ⟨[11], some 12, [], []⟩, ⟨[12, 1], some 13, [], []⟩, ⟨[12, 13], some 14, [], []⟩, ⟨[12, 14], some 15, [], []⟩] (fun k2 => ?_) ?_
 ·skip
  refine .move (.no rfl) rfl rfl rfl rfl <| .bin (.no rfl) rfl rfl rfl rfl rfl rfl <| .moveB (.no rfl) rfl rfl rfl rfl fun b3 g1_2 => ?_
  cases b3
  ·skip
   refine .move (.on rfl rfl rfl rfl rfl) rfl rfl rfl rfl <| .bin (.on rfl rfl rfl rfl rfl) rfl rfl rfl rfl rfl rfl <| .pick (.no rfl) rfl rfl rfl rfl rfl ?_
   exact .fin () (.of (.cons rfl (.cons rfl (.cons (svB (show (b == 0) = ((a == 0 || b == 0)) by first | (simp only [g1_2, Bool.true_or, Bool.false_or, Bool.true_and, Bool.false_and, Bool.not_true, Bool.not_false]; done) | (simp [g1_2]; done) | (exfalso; simp_all; done))) .nil))) .nil)
  ·skip
   refine .off rfl rfl rfl rfl rfl rfl rfl <| .off rfl rfl rfl rfl rfl rfl rfl <| .pick (.no rfl) rfl rfl rfl rfl rfl ?_
   exact .fin () (.of (.cons rfl (.cons rfl (.cons (svB (show (true) = ((a == 0 || b == 0)) by first | (simp only [g1_2, Bool.true_or, Bool.false_or, Bool.true_and, Bool.false_and, Bool.not_true, Bool.not_false]; done) | (simp [g1_2]; done) | (exfalso; simp_all; done))) .nil))) .nil)
 intro _
 refine .cond (t := (a == 0 || b == 0)) rfl (fun c0 => ?_) (fun c0 => ?_)
 ·have c0 := (oT eT eT) c0
  refine .seq <| .rs fun k4 => .as rfl <| .as rfl <| .z <| .ret ?_
  exact fin0 (.inr rfl) (.one (svI (show (0) = (fitN (a * b)) by (first | exact (mul_zero9 c0).1.symm | exact (mul_zero9 c0).2.symm))) (.one (svI (show (0) = (fitO (a * b)) by (first | exact (mul_zero9 c0).1.symm | exact (mul_zero9 c0).2.symm))) .nil)) (.dd (.dd .nil)) rfl
 ·have c0 := (oF eF eF) c0
  refine .skip <| .seq <| .rs fun k7 => .mv rfl <| .c0 (c_l1Abs a (by assumption)) rfl (.dd .nil) (.own [17, 0] .nil) rfl <| .as rfl <| .z <| .seq <| .rs fun k8 => ?_
  refine .mv rfl <| .c0 (c_l1Abs b (by assumption)) rfl (.dd .nil) (.own [19, 0] .nil) rfl <| .as rfl <| .z <| .seq <| .rs fun k9 => .mv rfl <| .bi rfl <| .mv rfl ?_
  refine .bi rfl <| .g (fun _ τ => ⟨_, .neB (.no rfl) rfl t4 rfl rfl rfl rfl rfl τ⟩) <| .as rfl <| .z <| .seq <| .rs fun k10 => .as rfl <| .z <| .seq ?_
  refine .seq <| .rs fun k11 => .mv rfl <| .z ?_
  refine .cond (t := (decide (a < 0)) != (decide (b < 0))) rfl (fun c1 => ?_) (fun c1 => ?_)
  ·have c1 := (by simpa using c1 : ¬ ((decide (a < 0)) = (decide (b < 0))))
   refine .rs fun k12 => .as rfl <| .z <| .seq <| .block <| .seq ?_
   refine .reg (X := Unit) (fun ζ => .of [(0, .one (.d (.v (.int .i64 (a))))), (1, .one (.d (.v (.int .i64 (b))))), (6, .one (.d (.v (.int .u64 (absN a))))), (7, .one (.d (.v (.int .u64 (absN b))))), (9, .one (.d (.v (.int .u64 (9223372036854775808))))), (26, .one (.d (.v (.bool ((decide ((absN a) > (IntKind.wrap .u64 (Int.tdiv 9223372036854775808 (absN b)))) && (decide (a < 0)) != (decide (b < 0))))))))] []) [⟨[6], some 27, [], []⟩, ⟨[9], some 28, [], []⟩, ⟨[7], some 29, [], []⟩, ⟨[28, 29], some 30, [], []⟩, ⟨[27, 30], some 31, [], []⟩, ⟨[31], some 32, [], []⟩, ⟨[32, 8], some 33, [], []⟩, ⟨[32, 33], some 34, [], []⟩, ⟨[34], some 26, [], []⟩] (fun k13 => ?_) ?_
   ·skip
    refine .move (.no rfl) rfl rfl rfl rfl <| .move (.no rfl) rfl rfl rfl rfl <| .move (.no rfl) rfl rfl rfl rfl <| .quoRem (.no rfl) rfl (.inl ⟨rfl, rfl⟩) rfl rfl rfl (ne_beq (by exact absN_ne c0.2)) rfl <| .bin (.no rfl) rfl rfl rfl rfl rfl rfl <| .moveB (.no rfl) rfl rfl rfl rfl fun b14 g9_5 => ?_
    cases b14
    ·skip
     refine .off rfl rfl rfl rfl rfl rfl rfl <| .pick (.no rfl) rfl rfl rfl rfl rfl <| .assign (.no rfl) rfl rfl rfl rfl ?_
     exact .fin () (.of (.cons rfl (.cons rfl (.cons rfl (.cons rfl (.cons rfl (.cons (svB (show (false) = ((decide ((absN a) > (IntKind.wrap .u64 (Int.tdiv 9223372036854775808 (absN b)))) && (decide (a < 0)) != (decide (b < 0)))) by first | (simp only [g9_5, Bool.true_or, Bool.false_or, Bool.true_and, Bool.false_and, Bool.not_true, Bool.not_false]; done) | (simp [g9_5]; done) | (exfalso; simp_all; done))) .nil)))))) .nil)
    ·skip
     refine .move (.on rfl rfl rfl rfl rfl) rfl rfl rfl rfl <| .pick (.no rfl) rfl rfl rfl rfl rfl <| .assign (.no rfl) rfl rfl rfl rfl ?_
     exact .fin () (.of (.cons rfl (.cons rfl (.cons rfl (.cons rfl (.cons rfl (.cons (svB (show ((decide (a < 0)) != (decide (b < 0))) = ((decide ((absN a) > (IntKind.wrap .u64 (Int.tdiv 9223372036854775808 (absN b)))) && (decide (a < 0)) != (decide (b < 0)))) by first | (simp only [g9_5, Bool.true_or, Bool.false_or, Bool.true_and, Bool.false_and, Bool.not_true, Bool.not_false]; done) | (simp [g9_5]; done) | (exfalso; simp_all; done))) .nil)))))) .nil)
   intro _
   refine .cond (t := (decide ((absN a) > (IntKind.wrap .u64 (Int.tdiv 9223372036854775808 (absN b)))) && (decide (a < 0)) != (decide (b < 0)))) rfl (fun c2 => ?_) (fun c2 => ?_)
   ·have c2 := (aT dT bT) c2
    refine .seq <| .rs fun k15 => .as rfl <| .as rfl <| .z <| .ret ?_
    exact fin0 (.inr rfl) (.one (svI (show (0) = (fitN (a * b)) by (first | exact (smul_1 hb c0.2 c1 c2.1).1.symm | exact (smul_1 hb c0.2 c1 c2.1).2.symm))) (.one (svI (show (-1) = (fitO (a * b)) by (first | exact (smul_1 hb c0.2 c1 c2.1).1.symm | exact (smul_1 hb c0.2 c1 c2.1).2.symm))) .nil)) (.dd (.dd .nil)) rfl
   ·have c2 := (aF dF bF) c2
    refine .seq <| .rs fun k18 => .mv rfl <| .mv rfl <| .mv rfl <| .g (fun _ τ => ⟨_, .quoRem (.no rfl) rfl (.inl ⟨rfl, rfl⟩) rfl rfl rfl (ne_beq (by exact absN_ne c0.2)) rfl τ⟩) <| .bi rfl <| .as rfl <| .z ?_
    refine .cond (t := decide ((absN a) > (IntKind.wrap .u64 (Int.tdiv 9223372036854775808 (absN b))))) rfl (fun c3 => ?_) (fun c3 => ?_)
    ·have c3 := of_decide_eq_true c3
     refine .seq <| .rs fun k19 => .as rfl <| .as rfl <| .z <| .ret ?_
     exact fin0 (.inr rfl) (.one (svI (show (0) = (fitN (a * b)) by (exact absurd (c2.resolve_left (fun h9 => h9 c3)) c1))) (.one (svI (show (1) = (fitO (a * b)) by (exact absurd (c2.resolve_left (fun h9 => h9 c3)) c1))) .nil)) (.dd (.dd .nil)) rfl
    ·have c3 := of_decide_eq_false c3
     refine .skip <| .seq <| .rs fun k22 => .mv rfl <| .mv rfl <| .bi rfl <| .as rfl <| .as rfl <| .z ?_
     refine .ret ?_
     exact fin0 (.inr rfl) (.one (svI (show (IntKind.wrap .i64 (a * b)) = (fitN (a * b)) by (first | exact (smul_3 ha hb c0.2 c1 c3).1.symm | exact (smul_3 ha hb c0.2 c1 c3).2.symm))) (.one (svI (show (0) = (fitO (a * b)) by (first | exact (smul_3 ha hb c0.2 c1 c3).1.symm | exact (smul_3 ha hb c0.2 c1 c3).2.symm))) .nil)) (.dd (.dd .nil)) rfl
  ·have c1 := (by simpa using c1 : (decide (a < 0)) = (decide (b < 0)))
   refine .skip <| .seq <| .block <| .seq ?_
   refine .reg (X := Unit) (fun ζ => .of [(0, .one (.d (.v (.int .i64 (a))))), (1, .one (.d (.v (.int .i64 (b))))), (6, .one (.d (.v (.int .u64 (absN a))))), (7, .one (.d (.v (.int .u64 (absN b))))), (9, .one (.d (.v (.int .u64 (9223372036854775807))))), (26, .one (.d (.v (.bool ((decide ((absN a) > (IntKind.wrap .u64 (Int.tdiv 9223372036854775807 (absN b)))) && (decide (a < 0)) != (decide (b < 0))))))))] []) [⟨[6], some 27, [], []⟩, ⟨[9], some 28, [], []⟩, ⟨[7], some 29, [], []⟩, ⟨[28, 29], some 30, [], []⟩, ⟨[27, 30], some 31, [], []⟩, ⟨[31], some 32, [], []⟩, ⟨[32, 8], some 33, [], []⟩, ⟨[32, 33], some 34, [], []⟩, ⟨[34], some 26, [], []⟩] (fun k25 => ?_) ?_
   ·skip
    refine .move (.no rfl) rfl rfl rfl rfl <| .move (.no rfl) rfl rfl rfl rfl <| .move (.no rfl) rfl rfl rfl rfl <| .quoRem (.no rfl) rfl (.inl ⟨rfl, rfl⟩) rfl rfl rfl (ne_beq (by exact absN_ne c0.2)) rfl <| .bin (.no rfl) rfl rfl rfl rfl rfl rfl <| .moveB (.no rfl) rfl rfl rfl rfl fun b26 g9_5 => ?_
    cases b26
    ·skip
     refine .off rfl rfl rfl rfl rfl rfl rfl <| .pick (.no rfl) rfl rfl rfl rfl rfl <| .assign (.no rfl) rfl rfl rfl rfl ?_
     exact .fin () (.of (.cons rfl (.cons rfl (.cons rfl (.cons rfl (.cons rfl (.cons (svB (show (false) = ((decide ((absN a) > (IntKind.wrap .u64 (Int.tdiv 9223372036854775807 (absN b)))) && (decide (a < 0)) != (decide (b < 0)))) by first | (simp only [g9_5, Bool.true_or, Bool.false_or, Bool.true_and, Bool.false_and, Bool.not_true, Bool.not_false]; done) | (simp [g9_5]; done) | (exfalso; simp_all; done))) .nil)))))) .nil)
    ·skip
     refine .move (.on rfl rfl rfl rfl rfl) rfl rfl rfl rfl <| .pick (.no rfl) rfl rfl rfl rfl rfl <| .assign (.no rfl) rfl rfl rfl rfl ?_
     exact .fin () (.of (.cons rfl (.cons rfl (.cons rfl (.cons rfl (.cons rfl (.cons (svB (show ((decide (a < 0)) != (decide (b < 0))) = ((decide ((absN a) > (IntKind.wrap .u64 (Int.tdiv 9223372036854775807 (absN b)))) && (decide (a < 0)) != (decide (b < 0)))) by first | (simp only [g9_5, Bool.true_or, Bool.false_or, Bool.true_and, Bool.false_and, Bool.not_true, Bool.not_false]; done) | (simp [g9_5]; done) | (exfalso; simp_all; done))) .nil)))))) .nil)
   intro _
   refine .cond (t := (decide ((absN a) > (IntKind.wrap .u64 (Int.tdiv 9223372036854775807 (absN b)))) && (decide (a < 0)) != (decide (b < 0)))) rfl (fun c2 => ?_) (fun c2 => ?_)
   ·have c2 := (aT dT bT) c2
    refine .seq <| .rs fun k27 => .as rfl <| .as rfl <| .z <| .ret ?_
    exact fin0 (.inr rfl) (.one (svI (show (0) = (fitN (a * b)) by (exact absurd c1 c2.2))) (.one (svI (show (-1) = (fitO (a * b)) by (exact absurd c1 c2.2))) .nil)) (.dd (.dd .nil)) rfl
   ·have c2 := (aF dF bF) c2
    refine .seq <| .rs fun k30 => .mv rfl <| .mv rfl <| .mv rfl <| .g (fun _ τ => ⟨_, .quoRem (.no rfl) rfl (.inl ⟨rfl, rfl⟩) rfl rfl rfl (ne_beq (by exact absN_ne c0.2)) rfl τ⟩) <| .bi rfl <| .as rfl <| .z ?_
    refine .cond (t := decide ((absN a) > (IntKind.wrap .u64 (Int.tdiv 9223372036854775807 (absN b))))) rfl (fun c3 => ?_) (fun c3 => ?_)
    ·have c3 := of_decide_eq_true c3
     refine .seq <| .rs fun k31 => .as rfl <| .as rfl <| .z <| .ret ?_
     exact fin0 (.inr rfl) (.one (svI (show (0) = (fitN (a * b)) by (first | exact (smul_5 hb c0.2 c1 c3).1.symm | exact (smul_5 hb c0.2 c1 c3).2.symm))) (.one (svI (show (1) = (fitO (a * b)) by (first | exact (smul_5 hb c0.2 c1 c3).1.symm | exact (smul_5 hb c0.2 c1 c3).2.symm))) .nil)) (.dd (.dd .nil)) rfl
    ·have c3 := of_decide_eq_false c3
     refine .skip <| .seq <| .rs fun k34 => .mv rfl <| .mv rfl <| .bi rfl <| .as rfl <| .as rfl <| .z ?_
     refine .ret ?_
     exact fin0 (.inr rfl) (.one (svI (show (IntKind.wrap .i64 (a * b)) = (fitN (a * b)) by (first | exact (smul_6 ha hb c0.2 c1 c3).1.symm | exact (smul_6 ha hb c0.2 c1 c3).2.symm))) (.one (svI (show (0) = (fitO (a * b)) by (first | exact (smul_6 ha hb c0.2 c1 c3).1.symm | exact (smul_6 ha hb c0.2 c1 c3).2.symm))) .nil)) (.dd (.dd .nil)) rfl
theorem c_NumMul (a : Int) (b : Int) (ha : Fit a) (hb : Fit b) : Trip Tryz.prog 111 [(false, 1), (false, 1)] ([.v (.int .i64 (a))] ++ [.v (.int .i64 (b))]) [(false, 1), (false, 1)] [.v (.int .i64 (fitN (a * b))), .v (.int .i64 (fitO (a * b)))] [] := by
 refine Trip.of Tryz.func111 (by decide) (c := _) rfl rfl (Nat.le_of_ble_eq_true rfl) rfl (AftOk.nil _) <| .seq <| .rs fun k1 => .as rfl <| .as rfl <| .z <| .seq <| .rs fun k2 => .mv rfl ?_
 refine .c0 (c_distance a (by first | assumption | exact absN_bnd ha | exact absN_bnd hb)) rfl (.dd .nil) (.own [12, 0] .nil) rfl <| .mv rfl <| .c0 (c_distance b (by first | assumption | exact absN_bnd ha | exact absN_bnd hb)) rfl (.dd .nil) (.own [14, 0] .nil) rfl <| .c0 (c_Mul64 (absN a) (absN b) (by first | assumption | exact absN_bnd ha | exact absN_bnd hb) (by first | assumption | exact absN_bnd ha | exact absN_bnd hb)) rfl (.dd (.dd .nil)) (.own [15, 0] (.own [15, 1] .nil)) rfl <| .g (fun _ τ => ⟨_, .move (.no rfl) rfl rfl rfl rfl τ⟩) <| .g (fun _ τ => ⟨_, .extract (.no rfl) rfl rfl rfl rfl rfl τ⟩) <| .g (fun _ τ => ⟨_, .extract (.no rfl) rfl rfl rfl rfl rfl τ⟩) <| .as rfl <| .as rfl ?_
 refine .z <| .seq <| .rs fun k3 => .mv rfl <| .bi rfl <| .mv rfl <| .bi rfl <| .g (fun _ τ => ⟨_, .neB (.no rfl) rfl t4 rfl rfl rfl rfl rfl τ⟩) <| .as rfl ?_
 refine .z <| .seq <| .rs fun k4 => .as rfl <| .z <| .seq <| .seq <| .rs fun k5 => .mv rfl ?_
 refine .z ?_
 refine .cond (t := (decide (a < 0)) != (decide (b < 0))) rfl (fun c0 => ?_) (fun c0 => ?_)
 ·have c0 := (by simpa using c0 : ¬ ((decide (a < 0)) = (decide (b < 0))))
  refine .rs fun k6 => .mv rfl <| .bi rfl <| .as rfl <| .z <| .seq <| .block <| .seq ?_
  refine .reg (X := Unit) (fun ζ => .of [(7, .one (.d (.v (.int .u64 (mulLo (absN a) (absN b)))))), (8, .one (.d (.v (.bool ((decide (a < 0)) != (decide (b < 0))))))), (26, .one (.d (.v (.bool ((decide ((mulHi (absN a) (absN b)) > 0) || decide ((mulLo (absN a) (absN b)) > (IntKind.wrap .u64 (9223372036854775807 + 1)))))))))] []) [⟨[6], some 27, [], []⟩, ⟨[27], some 28, [], []⟩, ⟨[28], some 29, [], []⟩, ⟨[29, 7], some 30, [], []⟩, ⟨[29, 9], some 31, [], []⟩, ⟨[29, 30, 31], some 32, [], []⟩, ⟨[29, 32], some 33, [], []⟩, ⟨[33], some 26, [], []⟩] (fun k7 => ?_) ?_
  ·skip
   refine .move (.no rfl) rfl rfl rfl rfl <| .bin (.no rfl) rfl rfl rfl rfl rfl rfl <| .moveB (.no rfl) rfl rfl rfl rfl fun b8 g6_2 => ?_
   cases b8
   ·skip
    refine .move (.on rfl rfl rfl rfl rfl) rfl rfl rfl rfl <| .move (.on rfl rfl rfl rfl rfl) rfl rfl rfl rfl <| .bin (.on rfl rfl rfl rfl rfl) rfl rfl rfl rfl rfl rfl <| .pick (.no rfl) rfl rfl rfl rfl rfl <| .assign (.no rfl) rfl rfl rfl rfl ?_
    exact .fin () (.of (.cons rfl (.cons rfl (.cons (svB (show (decide ((mulLo (absN a) (absN b)) > (IntKind.wrap .u64 (9223372036854775807 + 1)))) = ((decide ((mulHi (absN a) (absN b)) > 0) || decide ((mulLo (absN a) (absN b)) > (IntKind.wrap .u64 (9223372036854775807 + 1))))) by first | (simp only [g6_2, Bool.true_or, Bool.false_or, Bool.true_and, Bool.false_and, Bool.not_true, Bool.not_false]; done) | (simp [g6_2]; done) | (exfalso; simp_all; done))) .nil))) .nil)
   ·skip
    refine .off rfl rfl rfl rfl rfl rfl rfl <| .off rfl rfl rfl rfl rfl rfl rfl <| .off rfl rfl rfl rfl rfl rfl rfl <| .pick (.no rfl) rfl rfl rfl rfl rfl <| .assign (.no rfl) rfl rfl rfl rfl ?_
    exact .fin () (.of (.cons rfl (.cons rfl (.cons (svB (show (true) = ((decide ((mulHi (absN a) (absN b)) > 0) || decide ((mulLo (absN a) (absN b)) > (IntKind.wrap .u64 (9223372036854775807 + 1))))) by first | (simp only [g6_2, Bool.true_or, Bool.false_or, Bool.true_and, Bool.false_and, Bool.not_true, Bool.not_false]; done) | (simp [g6_2]; done) | (exfalso; simp_all; done))) .nil))) .nil)
  intro _
  refine .cond (t := (decide ((mulHi (absN a) (absN b)) > 0) || decide ((mulLo (absN a) (absN b)) > (IntKind.wrap .u64 (9223372036854775807 + 1))))) rfl (fun c1 => ?_) (fun c1 => ?_)
  ·have c1 := (oT dT dT) c1
   refine .seq <| .rs fun k9 => .mv rfl <| .c0 (c_side ((decide (a < 0)) != (decide (b < 0)))) rfl (.dd .nil) (.own [35, 0] .nil) rfl <| .as rfl <| .as rfl <| .z <| .ret ?_
   exact fin0 (.inr rfl) (.one (svI (show (0) = (fitN (a * b)) by (first | exact (imul_0 ha hb c0 c1).1.symm | exact (imul_0 ha hb c0 c1).2.symm))) (.one (svI (show (bif ((decide (a < 0)) != (decide (b < 0))) then -1 else 1) = (fitO (a * b)) by (first | exact (imul_0 ha hb c0 c1).1.symm | exact (imul_0 ha hb c0 c1).2.symm))) .nil)) (.dd (.dd .nil)) rfl
  ·have c1 := (oF dF dF) c1
   refine .seq <| .rs fun k12 => .mv rfl <| .as rfl <| .z ?_
   refine .cond (t := (decide (a < 0)) != (decide (b < 0))) rfl (fun c2 => ?_) (fun c2 => ?_)
   ·have c2 := (by simpa using c2 : ¬ ((decide (a < 0)) = (decide (b < 0))))
    refine .seq <| .rs fun k13 => .mv rfl <| .un rfl <| .g (fun _ τ => ⟨_, .conv (.no rfl) rfl t152 t2 rfl rfl rfl rfl rfl rfl τ⟩) <| .as rfl <| .as rfl <| .z <| .ret ?_
    exact fin0 (.inr rfl) (.one (svI (show (IntKind.wrap .i64 (IntKind.wrap .u64 (0 - (mulLo (absN a) (absN b))))) = (fitN (a * b)) by (first | exact (imul_1 ha hb c0 c1).1.symm | exact (imul_1 ha hb c0 c1).2.symm))) (.one (svI (show (0) = (fitO (a * b)) by (first | exact (imul_1 ha hb c0 c1).1.symm | exact (imul_1 ha hb c0 c1).2.symm))) .nil)) (.dd (.dd .nil)) rfl
   ·have c2 := (by simpa using c2 : (decide (a < 0)) = (decide (b < 0)))
    refine .skip <| .seq <| .rs fun k16 => .mv rfl <| .g (fun _ τ => ⟨_, .conv (.no rfl) rfl t152 t2 rfl rfl rfl rfl rfl rfl τ⟩) <| .as rfl <| .as rfl <| .z <| .ret ?_
    exact fin0 (.inr rfl) (.one (svI (show (IntKind.wrap .i64 (mulLo (absN a) (absN b))) = (fitN (a * b)) by exact absurd c2 c0)) (.one (svI (show (0) = (fitO (a * b)) by exact absurd c2 c0)) .nil)) (.dd (.dd .nil)) rfl
 ·have c0 := (by simpa using c0 : (decide (a < 0)) = (decide (b < 0)))
  refine .skip <| .seq <| .block <| .seq ?_
  refine .reg (X := Unit) (fun ζ => .of [(7, .one (.d (.v (.int .u64 (mulLo (absN a) (absN b)))))), (8, .one (.d (.v (.bool ((decide (a < 0)) != (decide (b < 0))))))), (26, .one (.d (.v (.bool ((decide ((mulHi (absN a) (absN b)) > 0) || decide ((mulLo (absN a) (absN b)) > 9223372036854775807)))))))] []) [⟨[6], some 27, [], []⟩, ⟨[27], some 28, [], []⟩, ⟨[28], some 29, [], []⟩, ⟨[29, 7], some 30, [], []⟩, ⟨[29, 9], some 31, [], []⟩, ⟨[29, 30, 31], some 32, [], []⟩, ⟨[29, 32], some 33, [], []⟩, ⟨[33], some 26, [], []⟩] (fun k19 => ?_) ?_
  ·skip
   refine .move (.no rfl) rfl rfl rfl rfl <| .bin (.no rfl) rfl rfl rfl rfl rfl rfl <| .moveB (.no rfl) rfl rfl rfl rfl fun b20 g6_2 => ?_
   cases b20
   ·skip
    refine .move (.on rfl rfl rfl rfl rfl) rfl rfl rfl rfl <| .move (.on rfl rfl rfl rfl rfl) rfl rfl rfl rfl <| .bin (.on rfl rfl rfl rfl rfl) rfl rfl rfl rfl rfl rfl <| .pick (.no rfl) rfl rfl rfl rfl rfl <| .assign (.no rfl) rfl rfl rfl rfl ?_
    exact .fin () (.of (.cons rfl (.cons rfl (.cons (svB (show (decide ((mulLo (absN a) (absN b)) > 9223372036854775807)) = ((decide ((mulHi (absN a) (absN b)) > 0) || decide ((mulLo (absN a) (absN b)) > 9223372036854775807))) by first | (simp only [g6_2, Bool.true_or, Bool.false_or, Bool.true_and, Bool.false_and, Bool.not_true, Bool.not_false]; done) | (simp [g6_2]; done) | (exfalso; simp_all; done))) .nil))) .nil)
   ·skip
    refine .off rfl rfl rfl rfl rfl rfl rfl <| .off rfl rfl rfl rfl rfl rfl rfl <| .off rfl rfl rfl rfl rfl rfl rfl <| .pick (.no rfl) rfl rfl rfl rfl rfl <| .assign (.no rfl) rfl rfl rfl rfl ?_
    exact .fin () (.of (.cons rfl (.cons rfl (.cons (svB (show (true) = ((decide ((mulHi (absN a) (absN b)) > 0) || decide ((mulLo (absN a) (absN b)) > 9223372036854775807))) by first | (simp only [g6_2, Bool.true_or, Bool.false_or, Bool.true_and, Bool.false_and, Bool.not_true, Bool.not_false]; done) | (simp [g6_2]; done) | (exfalso; simp_all; done))) .nil))) .nil)
  intro _
  refine .cond (t := (decide ((mulHi (absN a) (absN b)) > 0) || decide ((mulLo (absN a) (absN b)) > 9223372036854775807))) rfl (fun c1 => ?_) (fun c1 => ?_)
  ·have c1 := (oT dT dT) c1
   refine .seq <| .rs fun k21 => .mv rfl <| .c0 (c_side ((decide (a < 0)) != (decide (b < 0)))) rfl (.dd .nil) (.own [35, 0] .nil) rfl <| .as rfl <| .as rfl <| .z <| .ret ?_
   exact fin0 (.inr rfl) (.one (svI (show (0) = (fitN (a * b)) by (first | exact (imul_3 ha hb c0 c1).1.symm | exact (imul_3 ha hb c0 c1).2.symm))) (.one (svI (show (bif ((decide (a < 0)) != (decide (b < 0))) then -1 else 1) = (fitO (a * b)) by (first | exact (imul_3 ha hb c0 c1).1.symm | exact (imul_3 ha hb c0 c1).2.symm))) .nil)) (.dd (.dd .nil)) rfl
  ·have c1 := (oF dF dF) c1
   refine .seq <| .rs fun k24 => .mv rfl <| .as rfl <| .z ?_
   refine .cond (t := (decide (a < 0)) != (decide (b < 0))) rfl (fun c2 => ?_) (fun c2 => ?_)
   ·have c2 := (by simpa using c2 : ¬ ((decide (a < 0)) = (decide (b < 0))))
    refine .seq <| .rs fun k25 => .mv rfl <| .un rfl <| .g (fun _ τ => ⟨_, .conv (.no rfl) rfl t152 t2 rfl rfl rfl rfl rfl rfl τ⟩) <| .as rfl <| .as rfl <| .z <| .ret ?_
    exact fin0 (.inr rfl) (.one (svI (show (IntKind.wrap .i64 (IntKind.wrap .u64 (0 - (mulLo (absN a) (absN b))))) = (fitN (a * b)) by exact absurd c0 c2)) (.one (svI (show (0) = (fitO (a * b)) by exact absurd c0 c2)) .nil)) (.dd (.dd .nil)) rfl
   ·have c2 := (by simpa using c2 : (decide (a < 0)) = (decide (b < 0)))
    refine .skip <| .seq <| .rs fun k28 => .mv rfl <| .g (fun _ τ => ⟨_, .conv (.no rfl) rfl t152 t2 rfl rfl rfl rfl rfl rfl τ⟩) <| .as rfl <| .as rfl <| .z <| .ret ?_
    exact fin0 (.inr rfl) (.one (svI (show (IntKind.wrap .i64 (mulLo (absN a) (absN b))) = (fitN (a * b)) by (first | exact (imul_5 ha hb c0 c1).1.symm | exact (imul_5 ha hb c0 c1).2.symm))) (.one (svI (show (0) = (fitO (a * b)) by (first | exact (imul_5 ha hb c0 c1).1.symm | exact (imul_5 ha hb c0 c1).2.symm))) .nil)) (.dd (.dd .nil)) rfl
theorem c_sNumQuo (a : Int) (b : Int) (ha : Fit a) (hb : Fit b) : Trip Tryz.prog 94 [(false, 1), (false, 1)] ([.v (.int .i64 (a))] ++ [.v (.int .i64 (b))]) [(false, 1), (false, 1)] [.v (.int .i64 (quoN a b)), .v (.int .i64 (quoO a b))] [] := by
 refine Trip.of Tryz.func94 (by decide) (c := _) rfl rfl (Nat.le_of_ble_eq_true rfl) rfl (AftOk.nil _) <| .seq <| .rs fun k1 => .as rfl <| .as rfl <| .z <| .seq <| .block <| .seq ?_
 refine .rs fun k2 => .mv rfl <| .bi rfl <| .as rfl <| .z ?_
 refine .cond (t := b == 0) rfl (fun c0 => ?_) (fun c0 => ?_)
 ·have c0 := (by simpa using c0 : b = 0)
  refine .seq <| .rs fun k3 => .as rfl <| .as rfl <| .z <| .ret ?_
  exact fin0 (.inr rfl) (.one (svI (show (0) = (quoN a b) by (first | (unfold quoN; rw [if_pos c0]) | (unfold quoO; rw [if_pos c0])))) (.one (svI (show (0) = (quoO a b) by (first | (unfold quoN; rw [if_pos c0]) | (unfold quoO; rw [if_pos c0])))) .nil)) (.dd (.dd .nil)) rfl
 ·have c0 := (by simpa using c0 : ¬ (b = 0))
  refine .seq <| .rs fun k6 => .mv rfl <| .bi rfl <| .as rfl <| .z ?_
  refine .cond (t := b == (-1)) rfl (fun c1 => ?_) (fun c1 => ?_)
  ·have c1 := (by simpa using c1 : b = (-1))
   refine .seq <| .rs fun k7 => .mv rfl <| .c0 (c_sNumSub 0 a (by first | assumption | (unfold Fit; omega)) (by first | assumption | (unfold Fit; omega))) rfl (.dd (.dd .nil)) (.own [13, 0] (.own [13, 1] .nil)) rfl <| .g (fun _ τ => ⟨_, .extract (.no rfl) rfl rfl rfl rfl rfl τ⟩) <| .g (fun _ τ => ⟨_, .extract (.no rfl) rfl rfl rfl rfl rfl τ⟩) <| .as rfl <| .as rfl <| .z ?_
   refine .ret ?_
   exact fin0 (.inr rfl) (.one (svI (show (fitN (0 - a)) = (quoN a b) by (first | exact (quo_neg ha c1).1.symm | exact (quo_neg ha c1).2.symm))) (.one (svI (show (fitO (0 - a)) = (quoO a b) by (first | exact (quo_neg ha c1).1.symm | exact (quo_neg ha c1).2.symm))) .nil)) (.dd (.dd .nil)) rfl
  ·have c1 := (by simpa using c1 : ¬ (b = (-1)))
   refine .skip <| .seq <| .rs fun k10 => .mv rfl <| .mv rfl <| .g (fun _ τ => ⟨_, .quoRem (.no rfl) rfl (.inl ⟨rfl, rfl⟩) rfl rfl rfl (ne_beq (by omega)) rfl τ⟩) <| .as rfl <| .as rfl <| .z ?_
   refine .ret ?_
   exact fin0 (.inr rfl) (.one (svI (show (IntKind.wrap .i64 (Int.tdiv a b)) = (quoN a b) by (first | exact (quo_end ha c0 (.inr c1)).1.symm | exact (quo_end ha c0 (.inr c1)).2.symm))) (.one (svI (show (0) = (quoO a b) by (first | exact (quo_end ha c0 (.inr c1)).1.symm | exact (quo_end ha c0 (.inr c1)).2.symm))) .nil)) (.dd (.dd .nil)) rfl
theorem c_NumQuo (a : Int) (b : Int) (ha : Fit a) (hb : Fit b) : Trip Tryz.prog 113 [(false, 1), (false, 1)] ([.v (.int .i64 (a))] ++ [.v (.int .i64 (b))]) [(false, 1), (false, 1)] [.v (.int .i64 (quoN a b)), .v (.int .i64 (quoO a b))] [] := by
 refine Trip.of Tryz.func113 (by decide) (c := _) rfl rfl (Nat.le_of_ble_eq_true rfl) rfl (AftOk.nil _) <| .seq <| .rs fun k1 => .as rfl <| .as rfl <| .z <| .seq <| .block <| .seq ?_
 refine .rs fun k2 => .mv rfl <| .bi rfl <| .as rfl <| .z ?_
 refine .cond (t := b == 0) rfl (fun c0 => ?_) (fun c0 => ?_)
 ·have c0 := (by simpa using c0 : b = 0)
  refine .seq <| .rs fun k3 => .as rfl <| .as rfl <| .z <| .ret ?_
  exact fin0 (.inr rfl) (.one (svI (show (0) = (quoN a b) by (first | (unfold quoN; rw [if_pos c0]) | (unfold quoO; rw [if_pos c0])))) (.one (svI (show (0) = (quoO a b) by (first | (unfold quoN; rw [if_pos c0]) | (unfold quoO; rw [if_pos c0])))) .nil)) (.dd (.dd .nil)) rfl
 ·have c0 := (by simpa using c0 : ¬ (b = 0))
  refine .seq ?_
  refine .reg (X := Unit) (fun ζ => .of [(0, .one (.d (.v (.int .i64 (a))))), (1, .one (.d (.v (.int .i64 (b))))), (9, .one (.d (.v (.bool ((a == (-9223372036854775808) && b == (-1)))))))] []) [⟨[0], some 10, [], []⟩, ⟨[10], some 11, [], []⟩, ⟨[11], some 12, [], []⟩, ⟨[12, 1], some 13, [], []⟩, ⟨[12, 13], some 14, [], []⟩, ⟨[12, 14], some 15, [], []⟩, ⟨[15], some 9, [], []⟩] (fun k6 => ?_) ?_
  ·skip
   refine .move (.no rfl) rfl rfl rfl rfl <| .bin (.no rfl) rfl rfl rfl rfl rfl rfl <| .moveB (.no rfl) rfl rfl rfl rfl fun b7 g3_2 => ?_
   cases b7
   ·skip
    refine .off rfl rfl rfl rfl rfl rfl rfl <| .off rfl rfl rfl rfl rfl rfl rfl <| .pick (.no rfl) rfl rfl rfl rfl rfl <| .assign (.no rfl) rfl rfl rfl rfl ?_
    exact .fin () (.of (.cons rfl (.cons rfl (.cons (svB (show (false) = ((a == (-9223372036854775808) && b == (-1))) by first | (simp only [g3_2, Bool.true_or, Bool.false_or, Bool.true_and, Bool.false_and, Bool.not_true, Bool.not_false]; done) | (simp [g3_2]; done) | (exfalso; simp_all; done))) .nil))) .nil)
   ·skip
    refine .move (.on rfl rfl rfl rfl rfl) rfl rfl rfl rfl <| .bin (.on rfl rfl rfl rfl rfl) rfl rfl rfl rfl rfl rfl <| .pick (.no rfl) rfl rfl rfl rfl rfl <| .assign (.no rfl) rfl rfl rfl rfl ?_
    exact .fin () (.of (.cons rfl (.cons rfl (.cons (svB (show (b == (-1)) = ((a == (-9223372036854775808) && b == (-1))) by first | (simp only [g3_2, Bool.true_or, Bool.false_or, Bool.true_and, Bool.false_and, Bool.not_true, Bool.not_false]; done) | (simp [g3_2]; done) | (exfalso; simp_all; done))) .nil))) .nil)
  intro _
  refine .cond (t := (a == (-9223372036854775808) && b == (-1))) rfl (fun c1 => ?_) (fun c1 => ?_)
  ·have c1 := (aT eT eT) c1
   refine .seq <| .rs fun k8 => .as rfl <| .as rfl <| .z <| .ret ?_
   exact fin0 (.inr rfl) (.one (svI (show (0) = (quoN a b) by (first | (rw [(quo_neg ha c1.2).1, c1.1]; rfl) | (rw [(quo_neg ha c1.2).2, c1.1]; rfl)))) (.one (svI (show (1) = (quoO a b) by (first | (rw [(quo_neg ha c1.2).1, c1.1]; rfl) | (rw [(quo_neg ha c1.2).2, c1.1]; rfl)))) .nil)) (.dd (.dd .nil)) rfl
  ·have c1 := (aF eF eF) c1
   refine .skip <| .seq <| .rs fun k11 => .mv rfl <| .mv rfl <| .g (fun _ τ => ⟨_, .quoRem (.no rfl) rfl (.inl ⟨rfl, rfl⟩) rfl rfl rfl (ne_beq (by omega)) rfl τ⟩) <| .as rfl <| .as rfl <| .z ?_
   refine .ret ?_
   exact fin0 (.inr rfl) (.one (svI (show (IntKind.wrap .i64 (Int.tdiv a b)) = (quoN a b) by (first | exact (quo_end ha c0 c1).1.symm | exact (quo_end ha c0 c1).2.symm))) (.one (svI (show (0) = (quoO a b) by (first | exact (quo_end ha c0 c1).1.symm | exact (quo_end ha c0 c1).2.symm))) .nil)) (.dd (.dd .nil)) rfl
theorem c_sNumRem (a : Int) (b : Int) : Trip Tryz.prog 95 [(false, 1), (false, 1)] ([.v (.int .i64 (a))] ++ [.v (.int .i64 (b))]) [(false, 1)] [.v (.int .i64 (remN a b))] [] := by
 refine Trip.of Tryz.func95 (by decide) (c := _) rfl rfl (Nat.le_of_ble_eq_true rfl) rfl (AftOk.nil _) <| .seq <| .rs fun k1 => .as rfl <| .z <| .seq <| .seq ?_
 refine .reg (X := Unit) (fun ζ => .of [(0, .one (.d (.v (.int .i64 (a))))), (1, .one (.d (.v (.int .i64 (b))))), (10, .one (.d (.v (.bool ((b == 0 || b == (-1)))))))] []) [⟨[1], some 5, [], []⟩, ⟨[5], some 6, [], []⟩, ⟨[6], some 7, [], []⟩, ⟨[7, 1], some 8, [], []⟩, ⟨[7, 8], some 9, [], []⟩, ⟨[7, 9], some 10, [], []⟩] (fun k2 => ?_) ?_
 ·skip
  refine .move (.no rfl) rfl rfl rfl rfl <| .bin (.no rfl) rfl rfl rfl rfl rfl rfl <| .moveB (.no rfl) rfl rfl rfl rfl fun b3 g1_2 => ?_
  cases b3
  ·skip
   refine .move (.on rfl rfl rfl rfl rfl) rfl rfl rfl rfl <| .bin (.on rfl rfl rfl rfl rfl) rfl rfl rfl rfl rfl rfl <| .pick (.no rfl) rfl rfl rfl rfl rfl ?_
   exact .fin () (.of (.cons rfl (.cons rfl (.cons (svB (show (b == (-1)) = ((b == 0 || b == (-1))) by first | (simp only [g1_2, Bool.true_or, Bool.false_or, Bool.true_and, Bool.false_and, Bool.not_true, Bool.not_false]; done) | (simp [g1_2]; done) | (exfalso; simp_all; done))) .nil))) .nil)
  ·skip
   refine .off rfl rfl rfl rfl rfl rfl rfl <| .off rfl rfl rfl rfl rfl rfl rfl <| .pick (.no rfl) rfl rfl rfl rfl rfl ?_
   exact .fin () (.of (.cons rfl (.cons rfl (.cons (svB (show (true) = ((b == 0 || b == (-1))) by first | (simp only [g1_2, Bool.true_or, Bool.false_or, Bool.true_and, Bool.false_and, Bool.not_true, Bool.not_false]; done) | (simp [g1_2]; done) | (exfalso; simp_all; done))) .nil))) .nil)
 intro _
 refine .cond (t := (b == 0 || b == (-1))) rfl (fun c0 => ?_) (fun c0 => ?_)
 ·have c0 := (oT eT eT) c0
  refine .seq <| .rs fun k4 => .as rfl <| .z <| .ret ?_
  exact fin0 (.inr rfl) (.one (svI (show (0) = (remN a b) by (rw [rem_no c0]))) .nil) (.dd .nil) rfl
 ·have c0 := (oF eF eF) c0
  refine .skip <| .seq <| .rs fun k6 => .mv rfl <| .mv rfl <| .g (fun _ τ => ⟨_, .quoRem (.no rfl) rfl (.inr ⟨rfl, rfl⟩) rfl rfl rfl (ne_beq (by omega)) rfl τ⟩) <| .as rfl <| .z <| .ret ?_
  exact fin0 (.inr rfl) (.one (svI (show (Int.tmod a b) = (remN a b) by (rw [rem_end c0.1]))) .nil) (.dd .nil) rfl
theorem c_NumRem (a : Int) (b : Int) : Trip Tryz.prog 112 [(false, 1), (false, 1)] ([.v (.int .i64 (a))] ++ [.v (.int .i64 (b))]) [(false, 1)] [.v (.int .i64 (remN a b))] [] := by
 refine Trip.of Tryz.func112 (by decide) (c := _) rfl rfl (Nat.le_of_ble_eq_true rfl) rfl (AftOk.nil _) <| .seq <| .rs fun k1 => .as rfl <| .z <| .seq <| .seq ?_
 refine .reg (X := Unit) (fun ζ => .of [(0, .one (.d (.v (.int .i64 (a))))), (1, .one (.d (.v (.int .i64 (b))))), (10, .one (.d (.v (.bool ((b == 0 || b == (-1)))))))] []) [⟨[1], some 5, [], []⟩, ⟨[5], some 6, [], []⟩, ⟨[6], some 7, [], []⟩, ⟨[7, 1], some 8, [], []⟩, ⟨[7, 8], some 9, [], []⟩, ⟨[7, 9], some 10, [], []⟩] (fun k2 => ?_) ?_
 ·skip
  refine .move (.no rfl) rfl rfl rfl rfl <| .bin (.no rfl) rfl rfl rfl rfl rfl rfl <| .moveB (.no rfl) rfl rfl rfl rfl fun b3 g1_2 => ?_
  cases b3
  ·skip
   refine .move (.on rfl rfl rfl rfl rfl) rfl rfl rfl rfl <| .bin (.on rfl rfl rfl rfl rfl) rfl rfl rfl rfl rfl rfl <| .pick (.no rfl) rfl rfl rfl rfl rfl ?_
   exact .fin () (.of (.cons rfl (.cons rfl (.cons (svB (show (b == (-1)) = ((b == 0 || b == (-1))) by first | (simp only [g1_2, Bool.true_or, Bool.false_or, Bool.true_and, Bool.false_and, Bool.not_true, Bool.not_false]; done) | (simp [g1_2]; done) | (exfalso; simp_all; done))) .nil))) .nil)
  ·skip
   refine .off rfl rfl rfl rfl rfl rfl rfl <| .off rfl rfl rfl rfl rfl rfl rfl <| .pick (.no rfl) rfl rfl rfl rfl rfl ?_
   exact .fin () (.of (.cons rfl (.cons rfl (.cons (svB (show (true) = ((b == 0 || b == (-1))) by first | (simp only [g1_2, Bool.true_or, Bool.false_or, Bool.true_and, Bool.false_and, Bool.not_true, Bool.not_false]; done) | (simp [g1_2]; done) | (exfalso; simp_all; done))) .nil))) .nil)
 intro _
 refine .cond (t := (b == 0 || b == (-1))) rfl (fun c0 => ?_) (fun c0 => ?_)
 ·have c0 := (oT eT eT) c0
  refine .seq <| .rs fun k4 => .as rfl <| .z <| .ret ?_
  exact fin0 (.inr rfl) (.one (svI (show (0) = (remN a b) by (rw [rem_no c0]))) .nil) (.dd .nil) rfl
 ·have c0 := (oF eF eF) c0
  refine .skip <| .seq <| .rs fun k6 => .mv rfl <| .mv rfl <| .g (fun _ τ => ⟨_, .quoRem (.no rfl) rfl (.inr ⟨rfl, rfl⟩) rfl rfl rfl (ne_beq (by omega)) rfl τ⟩) <| .as rfl <| .z <| .ret ?_
  exact fin0 (.inr rfl) (.one (svI (show (Int.tmod a b) = (remN a b) by (rw [rem_end c0.1]))) .nil) (.dd .nil) rfl
end Go.Proofs

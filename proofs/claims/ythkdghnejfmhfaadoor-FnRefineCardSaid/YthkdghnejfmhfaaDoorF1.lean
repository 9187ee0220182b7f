/- Contracts of the program's functions at this seat, printed by a program of ours and checked by Lean: each under the conditions of its own statement. -/
import Derived.Test.YthkdghnejfmhfaaDoorE3
import Derived.Test.YthkdghnejfmhfaaDoorE4
import Derived.Test.YthkdghnejfmhfaaDoorProg
import Derived.Test.YthkdghnejfmhfaaDoorShelf
set_option linter.all false
set_option linter.unnecessarySimpa false
set_option linter.unusedSectionVars false
set_option linter.unusedSimpArgs false
set_option linter.unusedVariables false
namespace Go.Proofs
open Go Go.Proofs Go.Ev
instance : Lay := ⟨[(0, (List.range 256).map fun c => .v (.int .u8 (if Lib.isSp (UInt8.ofNat c) then 1 else 0)))]⟩

def Iv.c (x : Iv) : List D := [.v (.int .i64 (x.lo)), .v (.int .i64 (x.hi))]
theorem Iv.c_o (x : Iv) : ∀ d ∈ Iv.c x, Owned d := by simp [Iv.c, Owned.v]
theorem Iv.c_e (x : Iv) : (Iv.c x).map D.erase = Iv.c x := by simp [Iv.c, D.erase_v]
def i2 : TI := ⟨.int .i64, 1, 8, [.int .i64 0]⟩
theorem t2 : TyOk Tryd.prog 2 i2 := ⟨Tryd.underlying2, by kernel_rfl⟩
theorem z2 : ZOk Tryd.prog 2 i2 := ⟨t2, rfl⟩
def i25 : TI := ⟨.st [(0, 2), (1, 2)], 2, 16, [.int .i64 0, .int .i64 0]⟩
theorem t25 : TyOk Tryd.prog 25 i25 := ⟨⟨_, Tryd.underlying25, rfl⟩, by kernel_rfl⟩
theorem z25 : ZOk Tryd.prog 25 i25 := ⟨t25, rfl⟩
theorem p25 : Places Tryd.prog [(0, 2), (1, 2)] [(0, 1), (1, 1)] := by unfold Places; kernel_rfl
theorem c_l1In (n : Int) (lo : Int) (hi : Int) : Trip Tryd.prog 58 [(false, 1), (false, 1), (false, 1)] ([.v (.int .i64 (n))] ++ [.v (.int .i64 (lo))] ++ [.v (.int .i64 (hi))]) [(false, 1)] [.v (.bool (inR n lo hi))] [] := by
 refine Trip.of Tryd.func58 (by decide) (c := _) rfl rfl (Nat.le_of_ble_eq_true rfl) rfl (AftOk.nil _) <| .seq <| .rs fun k1 => .as rfl <| .z <| .seq ?_
 refine .reg (X := Unit) (fun ζ => .of [(6, .one (.d (.v (.bool ((decide (n ≥ lo) && decide (n ≤ hi)))))))] []) [⟨[0], some 7, [], []⟩, ⟨[1], some 8, [], []⟩, ⟨[7, 8], some 9, [], []⟩, ⟨[9], some 10, [], []⟩, ⟨[10, 0], some 11, [], []⟩, ⟨[10, 2], some 12, [], []⟩, ⟨[10, 11, 12], some 13, [], []⟩, ⟨[10, 13], some 14, [], []⟩, ⟨[14], some 6, [], []⟩] (fun k2 => ?_) ?_
 ·skip
  refine .move (.no rfl) rfl rfl rfl rfl <| .move (.no rfl) rfl rfl rfl rfl <| .bin (.no rfl) rfl rfl rfl rfl rfl rfl <| .moveB (.no rfl) rfl rfl rfl rfl fun b3 g1_3 => ?_
  cases b3
  ·skip
   refine .off rfl rfl rfl rfl rfl rfl rfl <| .off rfl rfl rfl rfl rfl rfl rfl <| .off rfl rfl rfl rfl rfl rfl rfl <| .pick (.no rfl) rfl rfl rfl rfl rfl <| .assign (.no rfl) rfl rfl rfl rfl ?_
   exact .fin () (.of (.cons (svB (show (false) = ((decide (n ≥ lo) && decide (n ≤ hi))) by first | (simp only [g1_3, Bool.true_or, Bool.false_or, Bool.true_and, Bool.false_and, Bool.not_true, Bool.not_false]; done) | (simp [g1_3]; done) | (exfalso; simp_all; done))) .nil) .nil)
  ·skip
   refine .move (.on rfl rfl rfl rfl rfl) rfl rfl rfl rfl <| .move (.on rfl rfl rfl rfl rfl) rfl rfl rfl rfl <| .bin (.on rfl rfl rfl rfl rfl) rfl rfl rfl rfl rfl rfl <| .pick (.no rfl) rfl rfl rfl rfl rfl <| .assign (.no rfl) rfl rfl rfl rfl ?_
   exact .fin () (.of (.cons (svB (show (decide (n ≤ hi)) = ((decide (n ≥ lo) && decide (n ≤ hi))) by first | (simp only [g1_3, Bool.true_or, Bool.false_or, Bool.true_and, Bool.false_and, Bool.not_true, Bool.not_false]; done) | (simp [g1_3]; done) | (exfalso; simp_all; done))) .nil) .nil)
 intro _
 refine .ret ?_
 exact fin0 (.inr rfl) (.one (svB (show ((decide (n ≥ lo) && decide (n ≤ hi))) = (inR n lo hi) by (first | rfl | simp_all [inR]))) .nil) (.dd .nil) rfl
theorem c_sIvOk (a : Iv) : Trip Tryd.prog 11 [(true, 2)] (Iv.c a) [(false, 1)] [.v (.bool (Iv.ok a))] [] := by
 refine Trip.of Tryd.func11 (by decide) (c := _) rfl rfl (Nat.le_of_ble_eq_true rfl) rfl (AftOk.nil _) <| .seq <| .rs fun k1 => .g (fun _ τ => ⟨_, .box (.no rfl) rfl rfl rfl rfl rfl τ⟩) <| .as rfl <| .z <| .seq <| .rs fun k2 => .fp t25 t2 rfl ?_
 refine .ld t2 rfl (.ptr _ _ _ _ _ rfl) rfl <| .fp t25 t2 rfl <| .ld t2 rfl (.ptr _ _ _ _ _ rfl) rfl <| .bi rfl <| .as rfl <| .z <| .ret ?_
 exact fin0 (.inr rfl) (.one (svB (show (decide (a.lo ≤ a.hi)) = (Iv.ok a) by rfl)) .nil) (.dd .nil) rfl
end Go.Proofs

namespace Go.Proofs
open Go Go.Proofs Go.Ev

def strc (x : ByteArray) : List D := [.v (.string x)]
theorem strc_e (x : ByteArray) : (strc x).map D.erase = strc x := by simp [strc, D.erase_v]
theorem strc_o (x : ByteArray) : ∀ d ∈ strc x, Owned d := by simp [strc, Owned.v]
def slc33 (x : List ByteArray) : List D := [.sl false 9 1 (List.map strc (x))]
theorem slc33_e (x : List ByteArray) : (slc33 x).map D.erase = slc33 x := by simp [slc33, erase_slo _ _ _ _ _ _ strc_e]
def slco33 (x : List ByteArray) : List D := [.sl true 9 1 (List.map strc (x))]
theorem slco33_e (x : List ByteArray) : (slco33 x).map D.erase = slc33 x := by simp [slco33, slc33, erase_slo _ _ _ _ _ _ strc_e]
theorem slco33_o (x : List ByteArray) : ∀ d ∈ slco33 x, Owned d := by simp [slco33, Owned.map _ _ _ _ strc_o]
def Arr.c (x : Arr) : List D := [.v (.string (x.name)), .v (.int .i64 (x.size))]
theorem Arr.c_o (x : Arr) : ∀ d ∈ Arr.c x, Owned d := by simp [Arr.c, Owned.v]
theorem Arr.c_e (x : Arr) : (Arr.c x).map D.erase = Arr.c x := by simp [Arr.c, D.erase_v]
def Decl.c36 (x : Decl) : List D := [.sl false 9 1 (List.map strc (x.vars)), .sl false 9 1 (List.map strc (x.flags)), .sl false 78 2 (List.map Arr.c (x.arrays))]
theorem Decl.c36_e (x : Decl) : (Decl.c36 x).map D.erase = Decl.c36 x := by simp [Decl.c36, D.erase_v, erase_slo _ _ _ _ _ _ strc_e, erase_slo _ _ _ _ _ _ Arr.c_e]
def Decl.co36 (x : Decl) : List D := [.sl true 9 1 (List.map strc (x.vars)), .sl true 9 1 (List.map strc (x.flags)), .sl true 78 2 (List.map Arr.c (x.arrays))]
theorem Decl.co36_e (x : Decl) : (Decl.co36 x).map D.erase = Decl.c36 x := by simp [Decl.co36, Decl.c36, D.erase_v, erase_slo _ _ _ _ _ _ strc_e, erase_slo _ _ _ _ _ _ Arr.c_e]
theorem Decl.co36_o (x : Decl) : ∀ d ∈ Decl.co36 x, Owned d := by simp [Decl.co36, Owned.v, Owned.map _ _ _ _ strc_o, Owned.map _ _ _ _ Arr.c_o]
def i3 : TI := ⟨.int .i64, 1, 8, [.int .i64 0]⟩
theorem t3 : TyOk Tryd.prog 3 i3 := ⟨Tryd.underlying3, by kernel_rfl⟩
theorem z3 : ZOk Tryd.prog 3 i3 := ⟨t3, rfl⟩
def i9 : TI := ⟨.str, 1, 16, [.string .empty]⟩
theorem t9 : TyOk Tryd.prog 9 i9 := ⟨Tryd.underlying9, by kernel_rfl⟩
theorem z9 : ZOk Tryd.prog 9 i9 := ⟨t9, rfl⟩
def i33 : TI := ⟨.sl 9, 1, 24, [.slice none 0 0]⟩
theorem t33 : TyOk Tryd.prog 33 i33 := ⟨Tryd.underlying33, by kernel_rfl⟩
theorem z33 : ZOk Tryd.prog 33 i33 := ⟨t33, rfl⟩
def i34 : TI := ⟨.sl 78, 1, 24, [.slice none 0 0]⟩
theorem t34 : TyOk Tryd.prog 34 i34 := ⟨Tryd.underlying34, by kernel_rfl⟩
theorem z34 : ZOk Tryd.prog 34 i34 := ⟨t34, rfl⟩
def i36 : TI := ⟨.st [(0, 33), (1, 33), (2, 34)], 3, 72, [.slice none 0 0, .slice none 0 0, .slice none 0 0]⟩
theorem t36 : TyOk Tryd.prog 36 i36 := ⟨⟨_, Tryd.underlying36, rfl⟩, by kernel_rfl⟩
theorem z36 : ZOk Tryd.prog 36 i36 := ⟨t36, rfl⟩
theorem p36 : Places Tryd.prog [(0, 33), (1, 33), (2, 34)] [(0, 1), (1, 1), (2, 1)] := by unfold Places; kernel_rfl
def i78 : TI := ⟨.st [(0, 9), (1, 2)], 2, 24, [.string .empty, .int .i64 0]⟩
theorem t78 : TyOk Tryd.prog 78 i78 := ⟨⟨_, Tryd.underlying78, rfl⟩, by kernel_rfl⟩
theorem z78 : ZOk Tryd.prog 78 i78 := ⟨t78, rfl⟩
theorem p78 : Places Tryd.prog [(0, 9), (1, 2)] [(0, 1), (1, 1)] := by unfold Places; kernel_rfl
def i116 : TI := ⟨.sl 33, 1, 24, [.slice none 0 0]⟩
theorem t116 : TyOk Tryd.prog 116 i116 := ⟨Tryd.underlying116, by kernel_rfl⟩
theorem z116 : ZOk Tryd.prog 116 i116 := ⟨t116, rfl⟩
theorem c_Grow (n : Nat) (hn : n ≤ 4194304) : Trip Tryd.prog 112 [(false, 1), (false, 1)] ([.v (.slice none 0 0)] ++ [.v (.int .i64 ((n : Int)))]) [(false, 1)] [.sl true 9 1 ([])] [] := by
 refine Trip.of Tryd.func112 (by decide) (c := _) rfl rfl (Nat.le_of_ble_eq_true rfl) rfl (AftOk.nil _) <| .seq <| .rs fun k1 => .as rfl <| .z <| .seq <| .seq <| .rs fun k2 => .mv rfl ?_
 refine .bi rfl <| .z ?_
 refine .cond (t := decide ((n : Int) < 0)) rfl (fun c0 => ?_) (fun c0 => ?_)
 ·have c0 := of_decide_eq_true c0
  exfalso; omega
 ·have c0 := of_decide_eq_false c0
  refine .skip <| .seq <| .seq <| .rs fun k3 => .mv rfl <| .mv rfl <| .g (fun _ τ => ⟨_, .capNil (.no rfl) rfl t33 rfl rfl rfl rfl τ⟩) <| .mv rfl <| .g (fun _ τ => ⟨_, .len (.no rfl) rfl (z := 0) t33 rfl rfl rfl (sz := 1) .nil rfl rfl τ⟩) ?_
  refine .bi (v := .int .i64 (0)) rfl <| .bi rfl <| .as rfl <| .z <| .seq <| .rs fun k4 => .mv rfl <| .bi rfl <| .z ?_
  refine .cond (t := decide ((IntKind.wrap .i64 ((n : Int) - 0)) > 0)) rfl (fun c1 => ?_) (fun c1 => ?_)
  ·have c1 := of_decide_eq_true c1
   refine .rs fun k5 => .mv rfl <| .mv rfl <| .g (fun _ τ => ⟨_, .capNil (.no rfl) rfl t33 rfl rfl rfl rfl τ⟩) <| .g (fun _ τ => ⟨_, .sliceNil (.no rfl) rfl t33 rfl t9 rfl rfl (by exact rfl) (by exact ⟨_, rfl⟩) rfl τ⟩) <| .mv rfl <| .g (fun _ τ => ⟨_, .growNil (.no rfl) rfl (n0 := n) (els := List.map strc (List.replicate n .empty)) t33 rfl t3 rfl z9 rfl rfl rfl rfl rfl rfl (by exact (wrap_le (by omega) (by omega)).trans (by omega)) (by (rw [wrap_le (by omega) (by omega)] at c1; omega)) (by simp [i9]; omega) (by omega) (rep_map _ _ _ rfl) rfl τ⟩) <| .mv rfl <| .g (fun _ τ => ⟨_, .len (.no rfl) rfl (z := 0) t33 rfl rfl rfl (sz := 1) .nil rfl rfl τ⟩) ?_
   refine .g (fun _ τ => ⟨_, .slice (.no rfl) rfl (lv := 0) (hv := 0) (m := k5 + 1 + 1 + 1 + 1 + 1) t33 rfl t9 rfl rfl (.ref _ _ _ _ _ rfl) rfl (by intro _ _ h; cases h; exact ⟨_, .head _⟩) (by exact rfl) (by exact ⟨_, rfl⟩) (Nat.zero_le _) (Nat.zero_le _) rfl rfl τ⟩) <| .as rfl <| .z <| .seq <| .rs fun k6 => .mv rfl <| .as rfl <| .z <| .ret ?_
   exact fin1 (.inr rfl) [] [([22], (k5 + 1 + 1 + 1 + 1 + 1, k5 + 1 + 1 + 1 + 1 + 1, .row 9 1 (List.map strc (List.replicate n .empty))))] (.one rfl .nil) (.cons (.cut0 (.head _)) .nil) rfl rfl (.r rfl)
  ·have c1 := of_decide_eq_false c1
   refine .skip <| .seq <| .rs fun k7 => .mv rfl <| .as rfl <| .z <| .ret ?_
   exact fin0 (.inr rfl) (.one rfl .nil) (.cons (Gives.nil' (by first | rfl | simp_all)) .nil) rfl
theorem c_Concat (l : List (List ByteArray)) (hb : lens l ≤ 4194304 ∧ l.length ≤ 1048576) : Trip Tryd.prog 97 [(false, 1)] ([.sl false 33 1 (List.map slc33 (l))]) [(false, 1)] [.sl true 9 1 (List.map strc (l.flatten))] [] := by
 refine Trip.of Tryd.func97 (by decide) (c := _) rfl rfl (Nat.le_of_ble_eq_true rfl) rfl (AftOk.nil _) <| .sl (t := 0) rfl fun hs1l => .seq <| .rs fun k2 => .as rfl <| .z <| .seq <| .rs fun k3 => .as rfl ?_
 refine .z <| .seq <| .seq <| .rs fun k4 => .mv rfl <| .g (fun _ τ => ⟨_, .len (.no rfl) rfl (z := (l.length : Int)) t116 rfl rfl rfl (.d _ _) (map_len _ _) rfl τ⟩) <| .mv rfl <| .z <| .block ?_
 refine .loop (X := Nat) (fun ζ => .of [(0, .one (.d (.sl false 33 1 (List.map slc33 (l))))), (3, .one (.d (.v (.int .i64 ((lens (l.take ζ) : Int)))))), (9, .one (.d (.sl false 33 1 (List.map slc33 (l))))), (10, .one (.d (.v (.int .i64 ((l.length : Int)))))), (11, .one (.d (.v (.int .i64 ((ζ : Int))))))] []) (fun ζ => ζ ≤ l.length) (fun ζ => l.length - ζ) ?_ ?_
 ·skip
  exact .here 0 (.of (.cons rfl (.cons (svI (show (0) = ((lens (l.take 0) : Int)) by first | rfl | omega | exact wrap_le (by omega) (by omega) | (rw [wrap_le (by omega) (by omega)]; omega))) (.cons rfl (.cons rfl (.cons (svI (show (0) = ((0 : Int)) by first | rfl | omega | exact wrap_le (by omega) (by omega) | (rw [wrap_le (by omega) (by omega)]; omega))) .nil))))) .nil) (show 0 ≤ l.length by omega)
 ·rintro j hI
  have hI : j ≤ l.length := hI
  have hs9 := lens_take l j
  have hs8 := lens_le l (j + 1)
  have hs7 := lens_le l j
  refine .seq <| .rs fun k5 => .bi rfl <| .z <| .seq ?_
  refine .cond (t := decide ((j : Int) < (l.length : Int))) rfl (fun c0 => ?_) (fun c0 => ?_)
  ·have c0 := of_decide_eq_true c0
   refine .skip <| .seq <| .block <| .seq <| .rs fun k6 => .g (fun _ τ => ⟨_, .indexAddr (.no rfl) rfl (j) t116 rfl t33 rfl rfl rfl (.d _ _) rfl rfl rfl (map_get (by omega)) rfl rfl τ⟩) <| .ld t33 rfl (.d _) rfl <| .as rfl <| .z ?_
   refine .seq <| .rs fun k7 => .mv rfl <| .mv rfl <| .g (fun _ τ => ⟨_, .len (.no rfl) rfl (z := ((l.getD j default).length : Int)) t33 rfl rfl rfl (.d _ _) (map_len _ _) rfl τ⟩) <| .bi rfl <| .as rfl <| .z <| .seq ?_
   refine .rs fun k8 => .mv rfl <| .bi rfl <| .z ?_
   refine .cond (t := decide ((IntKind.wrap .i64 ((lens (l.take j) : Int) + ((l.getD j default).length : Int))) < 0)) rfl (fun c1 => ?_) (fun c1 => ?_)
   ·have c1 := of_decide_eq_true c1
    exfalso; (rw [wrap_le (by omega) (by omega)] at c1; omega)
   ·have c1 := of_decide_eq_false c1
    refine .skip <| .rs fun k9 => .bi rfl <| .mv rfl <| .z ?_
    exact .here (j + 1) (.of (.cons rfl (.cons (svI (show (IntKind.wrap .i64 ((lens (l.take j) : Int) + ((l.getD j default).length : Int))) = ((lens (l.take (j + 1)) : Int)) by first | rfl | omega | exact wrap_le (by omega) (by omega) | (rw [wrap_le (by omega) (by omega)]; omega))) (.cons rfl (.cons rfl (.cons (svI (show (IntKind.wrap .i64 ((j : Int) + 1)) = (((j + 1) : Int)) by first | rfl | omega | exact wrap_le (by omega) (by omega) | (rw [wrap_le (by omega) (by omega)]; omega))) .nil))))) .nil) ⟨(show (j + 1) ≤ l.length by omega), (show l.length - (j + 1) < l.length - j by omega)⟩
  ·have c0 := of_decide_eq_false c0
   refine .exit <| .seq <| .rs fun k10 => .mv rfl <| .c0 (c_Grow (lens (l.take j)) (by omega)) rfl (.dd (.dd .nil)) (.own [24, 0] .nil) rfl <| .as rfl <| .z <| .seq <| .seq ?_
   refine .rs fun k11 => .mv rfl <| .g (fun _ τ => ⟨_, .len (.no rfl) rfl (z := (l.length : Int)) t116 rfl rfl rfl (.d _ _) (map_len _ _) rfl τ⟩) <| .mv rfl <| .z <| .block ?_
   refine .loop (X := Nat × Nat × Nat) (fun ζ => .of [(6, .one (.ref [24, 0] (ζ.2.1))), (25, .one (.d (.sl false 33 1 (List.map slc33 (l))))), (26, .one (.d (.v (.int .i64 ((l.length : Int)))))), (27, .one (.d (.v (.int .i64 ((ζ.1 : Int))))))] [([24, 0], (ζ.2.1, ζ.2.2, .row 9 1 (List.map strc ((l.take ζ.1).flatten))))]) (fun ζ => ζ.1 ≤ l.length) (fun ζ => l.length - ζ.1) ?_ ?_
   ·skip
    exact .here (0, (k10 + 1), (k10 + 1)) (.of (.cons (by show SV.one (.ref [24, 0] (k10 + 1)) = SV.one (.ref [24, 0] ((k10 + 1))); first | rfl | simp_all) (.cons rfl (.cons rfl (.cons (svI (show (0) = ((0 : Int)) by first | rfl | omega | exact wrap_le (by omega) (by omega) | (rw [wrap_le (by omega) (by omega)]; omega))) .nil)))) (.cons (rowE (show [] = List.map strc ((l.take 0).flatten) by first | (simp; done) | exact congrArg _ (take_flatten _ _))) .nil)) (show 0 ≤ l.length by omega)
   ·rintro ⟨i, q12, q13⟩ hI
    have hI : i ≤ l.length := hI
    have hs9 := lens_take l i
    have hs8 := lens_le l (i + 1)
    have hs7 := lens_le l i
    dsimp only
    refine .seq <| .rs fun k14 => .bi rfl <| .z <| .seq ?_
    refine .cond (t := decide ((i : Int) < (l.length : Int))) rfl (fun c2 => ?_) (fun c2 => ?_)
    ·have c2 := of_decide_eq_true c2
     refine .skip <| .seq <| .block <| .seq <| .rs fun k15 => .g (fun _ τ => ⟨_, .indexAddr (.no rfl) rfl (i) t116 rfl t33 rfl rfl rfl (.d _ _) rfl rfl rfl (map_get (by omega)) rfl rfl τ⟩) <| .ld t33 rfl (.d _) rfl <| .as rfl <| .z ?_
     refine .rs fun k16 => .mv rfl <| .mv rfl <| .g (fun _ τ => ⟨_, .append (.no rfl) rfl (l3 := List.map strc ((l.take i).flatten ++ l.getD i default)) t33 rfl z9 rfl rfl rfl rfl rfl rfl rfl rfl (.ref _ _ _ _ rfl) (.ro _ _) rfl (by simp only [List.length_map, flatten_lens, i9]; omega) (map_app _ _ _) rfl rfl τ⟩) <| .as rfl <| .z <| .rs fun k17 => .bi rfl <| .mv rfl ?_
     refine .z ?_
     exact .here ((i + 1), (k16 + 1 + 1), (k16 + 1 + 1)) (.of (.cons (by show SV.one (.ref [24, 0] (k16 + 1 + 1)) = SV.one (.ref [24, 0] ((k16 + 1 + 1))); first | rfl | simp_all) (.cons rfl (.cons rfl (.cons (svI (show (IntKind.wrap .i64 ((i : Int) + 1)) = (((i + 1) : Int)) by first | rfl | omega | exact wrap_le (by omega) (by omega) | (rw [wrap_le (by omega) (by omega)]; omega))) .nil)))) (.cons (rowE (show List.map strc ((l.take i).flatten ++ l.getD i default) = List.map strc ((l.take (i + 1)).flatten) by first | (simp; done) | exact congrArg _ (take_flatten _ _))) .nil)) ⟨(show (i + 1) ≤ l.length by omega), (show l.length - (i + 1) < l.length - i by omega)⟩
    ·have c2 := of_decide_eq_false c2
     refine .exit <| .seq <| .rs fun k18 => .mv rfl <| .as rfl <| .z <| .ret ?_
     have e19 : ((l.take i).flatten) = (l.flatten) := by (rw [List.take_of_length_le (by omega)])
     exact fin1 (.inr rfl) [] [([24, 0], (q12, q13, .row 9 1 (List.map strc (l.flatten))))] (.one rfl .nil) (.cons (.ref (.head _)) .nil) rfl rfl (.cons (rowE (congrArg (List.map strc) e19)) .nil)
theorem c_names (d : Decl) (hb : d.vars.length ≤ 1048576 ∧ d.flags.length ≤ 1048576 ∧ d.arrays.length ≤ 1048576) : Trip Tryd.prog 74 [(true, 3)] (Decl.c36 d) [(false, 1)] [.sl true 9 1 (List.map strc (Decl.names d))] [] := by
 refine Trip.of Tryd.func74 (by decide) (c := _) rfl rfl (Nat.le_of_ble_eq_true rfl) rfl (AftOk.nil _) <| .sla (t := 0) 0 rfl rfl fun hs1l => .sla (t := 0) 1 rfl rfl fun hs2l => .sla (t := 0) 2 rfl rfl fun hs3l => .seq <| .rs fun k4 => .g (fun _ τ => ⟨_, .box (.no rfl) rfl rfl rfl rfl rfl τ⟩) <| .as rfl <| .z ?_
 refine .seq <| .rs fun k5 => .fp t36 t33 rfl <| .ld t33 rfl (.ptr _ _ _ _ _ rfl) rfl <| .fp t36 t33 rfl <| .ld t33 rfl (.ptr _ _ _ _ _ rfl) rfl <| .g (fun _ τ => ⟨_, .buildSlice (.no rfl) rfl (els := [[.sl false 9 1 (List.map strc (d.vars))], [.sl false 9 1 (List.map strc (d.flags))]]) t116 rfl z33 rfl rfl rfl rfl rfl rfl rfl rfl (by simp [i33]) (.cons _ _ _ _ _ _ (.d _) (.cons _ _ _ _ _ _ (.d _) .nil)) rfl rfl rfl τ⟩) ?_
 refine .g (fun _ τ => ⟨_, .call (.no rfl) rfl [[10]] [([10], (k5 + 1 + 1 + 1 + 1, k5 + 1 + 1 + 1 + 1, .row 33 1 ([[.sl false 9 1 (List.map strc (d.vars))], [.sl false 9 1 (List.map strc (d.flags))]])))] (c_Concat [d.vars, d.flags] (by (simp [lens]; omega))) rfl rfl rfl rfl rfl (.cons (Reads.ref (Frz.of_erase (erase_slo true 33 1 slc33 slc33 ([d.vars, d.flags]) slc33_e)) (.head _) (.head _)).gives .nil) rfl rfl (fun _ => (ownCons (Owned.map _ _ _ _ strc_o) ownNil)) (.own [11, 0] .nil) (.nil) rfl rfl rfl (AllH.get (.r rfl)) rfl rfl rfl τ⟩) <| .as rfl <| .z <| .seq <| .seq <| .rs fun k6 => .fp t36 t34 rfl <| .ld t34 rfl (.ptr _ _ _ _ _ rfl) rfl <| .g (fun _ τ => ⟨_, .len (.no rfl) rfl (z := (d.arrays.length : Int)) t34 rfl rfl rfl (.d _ _) (map_len _ _) rfl τ⟩) ?_
 refine .mv rfl <| .z <| .block ?_
 refine .loop (X := Nat × Nat × Nat) (fun ζ => .of [(3, .one (.ref [11, 0] (ζ.2.1))), (13, .one (.d (.sl false 78 2 (List.map Arr.c (d.arrays))))), (14, .one (.d (.v (.int .i64 ((d.arrays.length : Int)))))), (15, .one (.d (.v (.int .i64 ((ζ.1 : Int))))))] [([11, 0], (ζ.2.1, ζ.2.2, .row 9 1 (List.map strc (d.vars ++ d.flags ++ (d.arrays.take ζ.1).map Arr.name))))]) (fun ζ => ζ.1 ≤ d.arrays.length) (fun ζ => d.arrays.length - ζ.1) ?_ ?_
 ·skip
  exact .here (0, (k5 + 1 + 1 + 1 + 1 + 1), (k5 + 1 + 1 + 1 + 1 + 1)) (.of (.cons (by show SV.one (.ref [11, 0] (k5 + 1 + 1 + 1 + 1 + 1)) = SV.one (.ref [11, 0] ((k5 + 1 + 1 + 1 + 1 + 1))); first | rfl | simp_all) (.cons rfl (.cons rfl (.cons (svI (show (0) = ((0 : Int)) by first | rfl | omega | exact wrap_le (by omega) (by omega) | (rw [wrap_le (by omega) (by omega)]; omega))) .nil)))) (.cons (rowE (show List.map strc ([d.vars, d.flags].flatten) = List.map strc (d.vars ++ d.flags ++ (d.arrays.take 0).map Arr.name) by first | (simp; done) | (rw [List.append_assoc (d.vars ++ d.flags), take_step (f := Arr.name) (by omega)]))) .nil)) (show 0 ≤ d.arrays.length by omega)
 ·rintro ⟨j, q7, q8⟩ hI
  have hI : j ≤ d.arrays.length := hI
  dsimp only
  refine .seq <| .rs fun k9 => .bi rfl <| .z <| .seq ?_
  refine .cond (t := decide ((j : Int) < (d.arrays.length : Int))) rfl (fun c0 => ?_) (fun c0 => ?_)
  ·have c0 := of_decide_eq_true c0
   refine .skip <| .seq <| .block <| .seq <| .rs fun k10 => .g (fun _ τ => ⟨_, .indexAddr (.no rfl) rfl (j) t34 rfl t78 rfl rfl rfl (.d _ _) rfl rfl rfl (map_get (by omega)) rfl rfl τ⟩) <| .lda t78 rfl (.d _) rfl <| .g (fun _ τ => ⟨_, .alloc (.no rfl) rfl z78 rfl rfl rfl τ⟩) <| .g (fun _ τ => ⟨_, .store (.no rfl) rfl t78 rfl rfl rfl rfl rfl rfl rfl rfl rfl τ⟩) ?_
   refine .z <| .rs fun k11 => .mv rfl <| .fp t78 t9 rfl <| .ld t9 rfl (.ptr _ _ _ _ _ rfl) rfl <| .g (fun _ τ => ⟨_, .buildSlice (.no rfl) rfl (els := [[.v (.string ((d.arrays.getD j default).name))]]) t33 rfl z9 rfl rfl rfl rfl rfl rfl rfl rfl (by simp [i9]) (.cons _ _ _ _ _ _ (.d _) .nil) rfl rfl rfl τ⟩) <| .g (fun _ τ => ⟨_, .append (.no rfl) rfl (l3 := List.map strc (d.vars ++ d.flags ++ (d.arrays.take j).map Arr.name ++ [(d.arrays.getD j default).name])) t33 rfl z9 rfl rfl rfl rfl rfl rfl rfl rfl (.ref _ _ _ _ rfl) (.take _ _ _ _ _ rfl) rfl (by simp [i9]; omega) (map_snoc _ _ _) rfl rfl τ⟩) <| .as rfl <| .z ?_
   refine .rs fun k12 => .bi rfl <| .mv rfl <| .z ?_
   exact .here ((j + 1), (k11 + 1 + 1 + 1 + 1), (k11 + 1 + 1 + 1 + 1)) (.of (.cons (by show SV.one (.ref [11, 0] (k11 + 1 + 1 + 1 + 1)) = SV.one (.ref [11, 0] ((k11 + 1 + 1 + 1 + 1))); first | rfl | simp_all) (.cons rfl (.cons rfl (.cons (svI (show (IntKind.wrap .i64 ((j : Int) + 1)) = (((j + 1) : Int)) by first | rfl | omega | exact wrap_le (by omega) (by omega) | (rw [wrap_le (by omega) (by omega)]; omega))) .nil)))) (.cons (rowE (show List.map strc (d.vars ++ d.flags ++ (d.arrays.take j).map Arr.name ++ [(d.arrays.getD j default).name]) = List.map strc (d.vars ++ d.flags ++ (d.arrays.take (j + 1)).map Arr.name) by first | (simp; done) | (rw [List.append_assoc (d.vars ++ d.flags), take_step (f := Arr.name) (by omega)]))) .nil)) ⟨(show (j + 1) ≤ d.arrays.length by omega), (show d.arrays.length - (j + 1) < d.arrays.length - j by omega)⟩
  ·have c0 := of_decide_eq_false c0
   refine .exit <| .seq <| .rs fun k13 => .mv rfl <| .as rfl <| .z <| .ret ?_
   have e14 : (d.vars ++ d.flags ++ (d.arrays.take j).map Arr.name) = (Decl.names d) := by (simp only [Decl.names]; rw [List.take_of_length_le (by omega)])
   exact fin1 (.inr rfl) [] [([11, 0], (q7, q8, .row 9 1 (List.map strc (Decl.names d))))] (.one rfl .nil) (.cons (.ref (.head _)) .nil) rfl rfl (.cons (rowE (congrArg (List.map strc) e14)) .nil)
end Go.Proofs

namespace Go.Proofs
open Go Go.Proofs Go.Ev

def i101 : TI := ⟨.fn, 1, 8, [.nilFunc]⟩
theorem t101 : TyOk Tryd.prog 101 i101 := ⟨⟨_, _, _, Tryd.underlying101⟩, by kernel_rfl⟩
theorem z101 : ZOk Tryd.prog 101 i101 := ⟨t101, rfl⟩
theorem c_IvOk (a : Iv) : Trip Tryd.prog 57 [(true, 2)] (Iv.c a) [(false, 1)] [.v (.bool (Iv.ok a))] [] := by
 refine Trip.of Tryd.func57 (by decide) (c := _) rfl rfl (Nat.le_of_ble_eq_true rfl) rfl (AftOk.nil _) <| .seq <| .rs fun k1 => .g (fun _ τ => ⟨_, .box (.no rfl) rfl rfl rfl rfl rfl τ⟩) <| .as rfl <| .z <| .seq <| .rs fun k2 => .fp t25 t2 rfl ?_
 refine .ld t2 rfl (.ptr _ _ _ _ _ rfl) rfl <| .fp t25 t2 rfl <| .ld t2 rfl (.ptr _ _ _ _ _ rfl) rfl <| .bi rfl <| .as rfl <| .z <| .ret ?_
 exact fin0 (.inr rfl) (.one (svB (show (decide (a.lo ≤ a.hi)) = (Iv.ok a) by rfl)) .nil) (.dd .nil) rfl
theorem c_IndexFuncA (l : List Arr) (F_p : FuncId) (first_p : List (Bool × List D)) (caps_p : List D) (p : Arr → Bool) (h_p : ∀ (x0 : Arr), FnTrip Tryd.prog F_p first_p caps_p [(true, 2)] (Arr.c x0) [(false, 1)] [.v (.bool (p x0))]) : Trip Tryd.prog 114 [(false, 1), (false, 1)] ([.sl false 78 2 (List.map Arr.c (l))] ++ [.fn F_p first_p caps_p]) [(false, 1)] [.v (.int .i64 (idx p l))] [] := by
 refine Trip.of Tryd.func114 (by decide) (c := _) rfl rfl (Nat.le_of_ble_eq_true rfl) rfl (AftOk.nil _) <| .sl (t := 0) rfl fun hs1l => .seq <| .rs fun k2 => .as rfl <| .z <| .seq <| .seq <| .rs fun k3 => ?_
 refine .mv rfl <| .g (fun _ τ => ⟨_, .len (.no rfl) rfl (z := (l.length : Int)) t34 rfl rfl rfl (.d _ _) (map_len _ _) rfl τ⟩) <| .mv rfl <| .z <| .block ?_
 refine .loop (X := Nat) (fun ζ => .of [(0, .one (.d (.sl false 78 2 (List.map Arr.c (l))))), (1, .one (.d (.fn F_p first_p caps_p))), (7, .one (.d (.v (.int .i64 ((l.length : Int)))))), (8, .one (.d (.v (.int .i64 ((ζ : Int))))))] []) (fun ζ => ζ ≤ l.length ∧ allTo ζ (fun i => !p (l.getD i default)) = true) (fun ζ => l.length - ζ) ?_ ?_
 ·skip
  exact .here 0 (.of (.cons rfl (.cons rfl (.cons rfl (.cons (svI (show (0) = ((0 : Int)) by first | rfl | omega | exact wrap_le (by omega) (by omega) | (rw [wrap_le (by omega) (by omega)]; omega))) .nil)))) .nil) (show 0 ≤ l.length ∧ allTo 0 (fun i => !p (l.getD i default)) = true by exact ⟨by omega, rfl⟩)
 ·rintro j hI
  have hI : j ≤ l.length ∧ allTo j (fun i => !p (l.getD i default)) = true := hI
  refine .seq <| .rs fun k4 => .bi rfl <| .z <| .seq ?_
  refine .cond (t := decide ((j : Int) < (l.length : Int))) rfl (fun c0 => ?_) (fun c0 => ?_)
  ·have c0 := of_decide_eq_true c0
   refine .skip <| .seq <| .block <| .seq <| .rs fun k5 => .mv rfl <| .as rfl <| .z <| .seq ?_
   refine .rs fun k6 => .mv rfl <| .mv rfl <| .mv rfl <| .g (fun _ τ => ⟨_, .indexAddr (.no rfl) rfl (j) t34 rfl t78 rfl rfl rfl (.d _ _) rfl rfl rfl (map_get (by omega)) rfl rfl τ⟩) <| .lda t78 rfl (.d _) rfl <| .g (fun _ τ => ⟨_, .callF (.no rfl) rfl (ds := [.v (.string ((l.getD j default).name)), .v (.int .i64 ((l.getD j default).size))]) (h_p (l.getD j default)) rfl rfl rfl rfl (.own [16, 0] .nil) rfl rfl rfl rfl rfl rfl τ⟩) <| .z ?_
   refine .cond (t := p (l.getD j default)) rfl (fun c1 => ?_) (fun c1 => ?_)
   ·have c1 := c1
    refine .seq <| .rs fun k7 => .mv rfl <| .as rfl <| .z <| .ret ?_
    exact fin0 (.inr rfl) (.one (svI (show ((j : Int)) = (idx p l) by exact (idx_found (j := j) (by omega) hI.2 (by simpa using c1)).symm)) .nil) (.dd .nil) rfl
   ·have c1 := c1
    refine .skip <| .rs fun k9 => .bi rfl <| .mv rfl <| .z ?_
    exact .here (j + 1) (.of (.cons rfl (.cons rfl (.cons rfl (.cons (svI (show (IntKind.wrap .i64 ((j : Int) + 1)) = (((j + 1) : Int)) by first | rfl | omega | exact wrap_le (by omega) (by omega) | (rw [wrap_le (by omega) (by omega)]; omega))) .nil)))) .nil) ⟨(show (j + 1) ≤ l.length ∧ allTo (j + 1) (fun i => !p (l.getD i default)) = true by exact ⟨by omega, allTo_step hI.2 (by simpa using c1)⟩), (show l.length - (j + 1) < l.length - j by omega)⟩
  ·have c0 := of_decide_eq_false c0
   refine .exit <| .seq <| .rs fun k10 => .as rfl <| .z <| .ret ?_
   exact fin0 (.inr rfl) (.one (svI (show (-1) = (idx p l) by exact (idx_none (by omega) hI.2).symm)) .nil) (.dd .nil) rfl
theorem c_ContainsFuncA (l : List Arr) (F_p : FuncId) (first_p : List (Bool × List D)) (caps_p : List D) (p : Arr → Bool) (h_p : ∀ (x0 : Arr), FnTrip Tryd.prog F_p first_p caps_p [(true, 2)] (Arr.c x0) [(false, 1)] [.v (.bool (p x0))]) : Trip Tryd.prog 101 [(false, 1), (false, 1)] ([.sl false 78 2 (List.map Arr.c (l))] ++ [.fn F_p first_p caps_p]) [(false, 1)] [.v (.bool (l.any p))] [] := by
 refine Trip.of Tryd.func101 (by decide) (c := _) rfl rfl (Nat.le_of_ble_eq_true rfl) rfl (AftOk.nil _) <| .sl (t := 0) rfl fun hs1l => .seq <| .rs fun k2 => .as rfl <| .z <| .seq <| .rs fun k3 => .mv rfl ?_
 refine .mv rfl <| .c0 (c_IndexFuncA l F_p first_p caps_p p h_p) rfl (.dd (.dd .nil)) (.own [7, 0] .nil) rfl <| .bi rfl <| .as rfl <| .z <| .ret ?_
 exact fin0 (.inr rfl) (.one (svB (show (decide ((idx p l) ≥ 0)) = (l.any p) by exact idx_any _ _)) .nil) (.dd .nil) rfl
theorem c_areAll1A (x : Arr) (F_p : FuncId) (first_p : List (Bool × List D)) (caps_p : List D) (p : Arr → Bool) (h_p : ∀ (x0 : Arr), FnTrip Tryd.prog F_p first_p caps_p [(true, 2)] (Arr.c x0) [(false, 1)] [.v (.bool (p x0))]) : Trip Tryd.prog 102 [(true, 2), (false, 1)] (Arr.c x ++ [.pt false [.fn F_p first_p caps_p]]) [(false, 1)] [.v (.bool (!p x))] [] := by
 refine Trip.of Tryd.func102 (by decide) (c := _) rfl rfl (Nat.le_of_ble_eq_true rfl) rfl (AftOk.nil _) <| .seq <| .rs fun k1 => .g (fun _ τ => ⟨_, .box (.no rfl) rfl rfl rfl rfl rfl τ⟩) <| .as rfl <| .z <| .seq <| .rs fun k2 => .ld t101 rfl (.d _) rfl ?_
 refine .lda t78 rfl (.ptr _ _ _ _ _ rfl) rfl <| .g (fun _ τ => ⟨_, .callF (.no rfl) rfl (ds := [.v (.string (x.name)), .v (.int .i64 (x.size))]) (h_p x) rfl rfl rfl rfl (.own [6, 0] .nil) rfl rfl rfl rfl rfl rfl τ⟩) <| .un rfl <| .as rfl <| .z <| .ret ?_
 exact fin0 (.inr rfl) (.one (svB (show (!(p x)) = (!p x) by rfl)) .nil) (.dd .nil) rfl
theorem c_areAllA (l : List Arr) (F_p : FuncId) (first_p : List (Bool × List D)) (caps_p : List D) (p : Arr → Bool) (h_p : ∀ (x0 : Arr), FnTrip Tryd.prog F_p first_p caps_p [(true, 2)] (Arr.c x0) [(false, 1)] [.v (.bool (p x0))]) : Trip Tryd.prog 78 [(false, 1), (false, 1)] ([.sl false 78 2 (List.map Arr.c (l))] ++ [.fn F_p first_p caps_p]) [(false, 1)] [.v (.bool (l.all p))] [] := by
 refine Trip.of Tryd.func78 (by decide) (c := _) rfl rfl (Nat.le_of_ble_eq_true rfl) rfl (AftOk.nil _) <| .sl (t := 0) rfl fun hs1l => .seq <| .rs fun k2 => .g (fun _ τ => ⟨_, .box (.no rfl) rfl rfl rfl rfl rfl τ⟩) <| .as rfl <| .z <| .seq <| .rs fun k3 => ?_
 refine .mv rfl <| .g (fun _ τ => ⟨_, .makeFunc (.no rfl) rfl rfl rfl rfl rfl τ⟩) <| .g (fun _ τ => ⟨_, .call (.no rfl) rfl [[3]] [([3], (k2, k2, .box [.d (.fn F_p first_p caps_p)]))] (c_ContainsFuncA l 102 [] [.pt false [.fn F_p first_p caps_p]] (fun x0 => !p x0) (fun x0 => c_areAll1A x0 F_p first_p caps_p p h_p)) rfl rfl rfl rfl rfl (.dd (.cons (Reads.clo0 (.cons (Reads.ptr0 (.head _) (.head _) (.cons (Reads.d _) .nil)) .nil)).gives .nil)) rfl rfl (fun _ => (ownCons (Owned.v _) ownNil)) (.own [7, 0] .nil) (.nil) rfl rfl rfl (AllH.get (.r rfl)) rfl rfl rfl τ⟩) <| .un rfl <| .as rfl <| .z <| .ret ?_
 exact fin0 (.inr rfl) (.one (svB (show (!(l.any (fun x0 => !p x0))) = (l.all p) by exact not_any _ _)) .nil) (.dd .nil) rfl
theorem c_isLetter (c : Int) : Trip Tryd.prog 98 [(false, 1)] ([.v (.int .u8 (c))]) [(false, 1)] [.v (.bool (decide (c ≥ 97) && decide (c ≤ 122)))] [] := by
 refine Trip.of Tryd.func98 (by decide) (c := _) rfl rfl (Nat.le_of_ble_eq_true rfl) rfl (AftOk.nil _) <| .seq <| .rs fun k1 => .as rfl <| .z <| .seq ?_
 refine .reg (X := Unit) (fun ζ => .of [(2, .one (.d (.v (.bool ((decide (c ≥ 97) && decide (c ≤ 122)))))))] []) [⟨[0], some 3, [], []⟩, ⟨[3], some 4, [], []⟩, ⟨[4], some 5, [], []⟩, ⟨[5, 0], some 6, [], []⟩, ⟨[5, 6], some 7, [], []⟩, ⟨[5, 7], some 8, [], []⟩, ⟨[8], some 2, [], []⟩] (fun k2 => ?_) ?_
 ·skip
  refine .move (.no rfl) rfl rfl rfl rfl <| .bin (.no rfl) rfl rfl rfl rfl rfl rfl <| .moveB (.no rfl) rfl rfl rfl rfl fun b3 g1_2 => ?_
  cases b3
  ·skip
   refine .off rfl rfl rfl rfl rfl rfl rfl <| .off rfl rfl rfl rfl rfl rfl rfl <| .pick (.no rfl) rfl rfl rfl rfl rfl <| .assign (.no rfl) rfl rfl rfl rfl ?_
   exact .fin () (.of (.cons (svB (show (false) = ((decide (c ≥ 97) && decide (c ≤ 122))) by first | (simp only [g1_2, Bool.true_or, Bool.false_or, Bool.true_and, Bool.false_and, Bool.not_true, Bool.not_false]; done) | (simp [g1_2]; done) | (exfalso; simp_all; done))) .nil) .nil)
  ·skip
   refine .move (.on rfl rfl rfl rfl rfl) rfl rfl rfl rfl <| .bin (.on rfl rfl rfl rfl rfl) rfl rfl rfl rfl rfl rfl <| .pick (.no rfl) rfl rfl rfl rfl rfl <| .assign (.no rfl) rfl rfl rfl rfl ?_
   exact .fin () (.of (.cons (svB (show (decide (c ≤ 122)) = ((decide (c ≥ 97) && decide (c ≤ 122))) by first | (simp only [g1_2, Bool.true_or, Bool.false_or, Bool.true_and, Bool.false_and, Bool.not_true, Bool.not_false]; done) | (simp [g1_2]; done) | (exfalso; simp_all; done))) .nil) .nil)
 intro _
 refine .ret ?_
 exact fin0 (.inr rfl) (.one (svB (show ((decide (c ≥ 97) && decide (c ≤ 122))) = (decide (c ≥ 97) && decide (c ≤ 122)) by rfl)) .nil) (.dd .nil) rfl
theorem c_within (n : Int) (lo : Int) (hi : Int) : Trip Tryd.prog 26 [(false, 1), (false, 1), (false, 1)] ([.v (.int .i64 (n))] ++ [.v (.int .i64 (lo))] ++ [.v (.int .i64 (hi))]) [(false, 1)] [.v (.bool (inR n lo hi))] [] := by
 refine Trip.of Tryd.func26 (by decide) (c := _) rfl rfl (Nat.le_of_ble_eq_true rfl) rfl (AftOk.nil _) <| .seq <| .rs fun k1 => .as rfl <| .z <| .seq ?_
 refine .reg (X := Unit) (fun ζ => .of [(6, .one (.d (.v (.bool ((decide (lo ≤ n) && decide (n ≤ hi)))))))] []) [⟨[1], some 7, [], []⟩, ⟨[0], some 8, [], []⟩, ⟨[7, 8], some 9, [], []⟩, ⟨[9], some 10, [], []⟩, ⟨[10, 0], some 11, [], []⟩, ⟨[10, 2], some 12, [], []⟩, ⟨[10, 11, 12], some 13, [], []⟩, ⟨[10, 13], some 14, [], []⟩, ⟨[14], some 6, [], []⟩] (fun k2 => ?_) ?_
 ·skip
  refine .move (.no rfl) rfl rfl rfl rfl <| .move (.no rfl) rfl rfl rfl rfl <| .bin (.no rfl) rfl rfl rfl rfl rfl rfl <| .moveB (.no rfl) rfl rfl rfl rfl fun b3 g1_3 => ?_
  cases b3
  ·skip
   refine .off rfl rfl rfl rfl rfl rfl rfl <| .off rfl rfl rfl rfl rfl rfl rfl <| .off rfl rfl rfl rfl rfl rfl rfl <| .pick (.no rfl) rfl rfl rfl rfl rfl <| .assign (.no rfl) rfl rfl rfl rfl ?_
   exact .fin () (.of (.cons (svB (show (false) = ((decide (lo ≤ n) && decide (n ≤ hi))) by first | (simp only [g1_3, Bool.true_or, Bool.false_or, Bool.true_and, Bool.false_and, Bool.not_true, Bool.not_false]; done) | (simp [g1_3]; done) | (exfalso; simp_all; done))) .nil) .nil)
  ·skip
   refine .move (.on rfl rfl rfl rfl rfl) rfl rfl rfl rfl <| .move (.on rfl rfl rfl rfl rfl) rfl rfl rfl rfl <| .bin (.on rfl rfl rfl rfl rfl) rfl rfl rfl rfl rfl rfl <| .pick (.no rfl) rfl rfl rfl rfl rfl <| .assign (.no rfl) rfl rfl rfl rfl ?_
   exact .fin () (.of (.cons (svB (show (decide (n ≤ hi)) = ((decide (lo ≤ n) && decide (n ≤ hi))) by first | (simp only [g1_3, Bool.true_or, Bool.false_or, Bool.true_and, Bool.false_and, Bool.not_true, Bool.not_false]; done) | (simp [g1_3]; done) | (exfalso; simp_all; done))) .nil) .nil)
 intro _
 refine .ret ?_
 exact fin0 (.inr rfl) (.one (svB (show ((decide (lo ≤ n) && decide (n ≤ hi))) = (inR n lo hi) by rfl)) .nil) (.dd .nil) rfl
theorem c_IndexS (l : List ByteArray) (s : ByteArray) : Trip Tryd.prog 100 [(false, 1), (false, 1)] ([.sl false 9 1 (List.map strc (l))] ++ [.v (.string (s))]) [(false, 1)] [.v (.int .i64 (idx (fun x => strEq s x) l))] [] := by
 refine Trip.of Tryd.func100 (by decide) (c := _) rfl rfl (Nat.le_of_ble_eq_true rfl) rfl (AftOk.nil _) <| .sl (t := 0) rfl fun hs1l => .seq <| .rs fun k2 => .as rfl <| .z <| .seq <| .seq <| .rs fun k3 => ?_
 refine .mv rfl <| .g (fun _ τ => ⟨_, .len (.no rfl) rfl (z := (l.length : Int)) t33 rfl rfl rfl (.d _ _) (map_len _ _) rfl τ⟩) <| .mv rfl <| .z <| .block ?_
 refine .loop (X := Nat) (fun ζ => .of [(0, .one (.d (.sl false 9 1 (List.map strc (l))))), (1, .one (.d (.v (.string (s))))), (7, .one (.d (.v (.int .i64 ((l.length : Int)))))), (8, .one (.d (.v (.int .i64 ((ζ : Int))))))] []) (fun ζ => ζ ≤ l.length ∧ allTo ζ (fun i => !strEq s (l.getD i default)) = true) (fun ζ => l.length - ζ) ?_ ?_
 ·skip
  exact .here 0 (.of (.cons rfl (.cons rfl (.cons rfl (.cons (svI (show (0) = ((0 : Int)) by first | rfl | omega | exact wrap_le (by omega) (by omega) | (rw [wrap_le (by omega) (by omega)]; omega))) .nil)))) .nil) (show 0 ≤ l.length ∧ allTo 0 (fun i => !strEq s (l.getD i default)) = true by exact ⟨by omega, rfl⟩)
 ·rintro j hI
  have hI : j ≤ l.length ∧ allTo j (fun i => !strEq s (l.getD i default)) = true := hI
  refine .seq <| .rs fun k4 => .bi rfl <| .z <| .seq ?_
  refine .cond (t := decide ((j : Int) < (l.length : Int))) rfl (fun c0 => ?_) (fun c0 => ?_)
  ·have c0 := of_decide_eq_true c0
   refine .skip <| .seq <| .block <| .seq <| .rs fun k5 => .mv rfl <| .as rfl <| .z <| .seq ?_
   refine .rs fun k6 => .mv rfl <| .mv rfl <| .mv rfl <| .g (fun _ τ => ⟨_, .indexAddr (.no rfl) rfl (j) t33 rfl t9 rfl rfl rfl (.d _ _) rfl rfl rfl (map_get (by omega)) rfl rfl τ⟩) <| .ld t9 rfl (.d _) rfl <| .bi rfl <| .z ?_
   refine .cond (t := s.toList == (l.getD j default).toList) rfl (fun c1 => ?_) (fun c1 => ?_)
   ·have c1 := c1
    refine .seq <| .rs fun k7 => .mv rfl <| .as rfl <| .z <| .ret ?_
    exact fin0 (.inr rfl) (.one (svI (show ((j : Int)) = (idx (fun x => strEq s x) l) by exact (idx_found (p := fun x => strEq s x) (by omega) hI.2 c1).symm)) .nil) (.dd .nil) rfl
   ·have c1 := c1
    refine .skip <| .rs fun k9 => .bi rfl <| .mv rfl <| .z ?_
    exact .here (j + 1) (.of (.cons rfl (.cons rfl (.cons rfl (.cons (svI (show (IntKind.wrap .i64 ((j : Int) + 1)) = (((j + 1) : Int)) by first | rfl | omega | exact wrap_le (by omega) (by omega) | (rw [wrap_le (by omega) (by omega)]; omega))) .nil)))) .nil) ⟨(show (j + 1) ≤ l.length ∧ allTo (j + 1) (fun i => !strEq s (l.getD i default)) = true by exact ⟨by omega, allTo_step hI.2 (by rw [show strEq s (l.getD j default) = false from c1]; rfl)⟩), (show l.length - (j + 1) < l.length - j by omega)⟩
  ·have c0 := of_decide_eq_false c0
   refine .exit <| .seq <| .rs fun k10 => .as rfl <| .z <| .ret ?_
   exact fin0 (.inr rfl) (.one (svI (show (-1) = (idx (fun x => strEq s x) l) by exact (idx_none (p := fun x => strEq s x) (by omega) hI.2).symm)) .nil) (.dd .nil) rfl
theorem c_ContainsS (l : List ByteArray) (s : ByteArray) : Trip Tryd.prog 76 [(false, 1), (false, 1)] ([.sl false 9 1 (List.map strc (l))] ++ [.v (.string (s))]) [(false, 1)] [.v (.bool (l.any fun x => strEq s x))] [] := by
 refine Trip.of Tryd.func76 (by decide) (c := _) rfl rfl (Nat.le_of_ble_eq_true rfl) rfl (AftOk.nil _) <| .sl (t := 0) rfl fun hs1l => .seq <| .rs fun k2 => .as rfl <| .z <| .seq <| .rs fun k3 => .mv rfl ?_
 refine .mv rfl <| .c0 (c_IndexS l s) rfl (.dd (.dd .nil)) (.own [7, 0] .nil) rfl <| .bi rfl <| .as rfl <| .z <| .ret ?_
 exact fin0 (.inr rfl) (.one (svB (show (decide ((idx (fun x => strEq s x) l) ≥ 0)) = (l.any fun x => strEq s x) by exact idx_any _ _)) .nil) (.dd .nil) rfl
theorem asciiTab {W : World} {Z : Nat → Prop} (h : Laid W Z) : ∀ c : Nat, c < 256 → W.cell? ⟨0, c, none⟩ = some (.int .u8 (if Lib.isSp (UInt8.ofNat c) then 1 else 0)) := fun c hc => by
  obtain ⟨_, h2⟩ := h _ (List.mem_singleton.2 rfl)
  obtain ⟨v, h3, h4⟩ := h2 c (.v (.int .u8 (if Lib.isSp (UInt8.ofNat c) then 1 else 0))) (by simp [hc])
  cases h4; exact h3
def words : ByteArray := (⟨#[118, 97, 114, 32, 102, 108, 97, 103, 32, 97, 114, 114, 97, 121, 32, 105, 102, 32, 102, 111, 114, 107, 32, 101, 108, 115, 101, 32, 101, 110, 100, 32, 119, 104, 105, 108, 101, 32, 117, 110, 114, 111, 108, 108, 32, 97, 115, 115, 101, 114, 116, 32, 97, 115, 115, 117, 109, 101, 32, 105, 110, 112, 117, 116, 32, 115, 112, 108, 105, 116, 32, 109, 101, 114, 103, 101, 32, 116, 114, 117, 101, 32, 102, 97, 108, 115, 101]⟩ : ByteArray)
theorem words_ascii : ∀ (j : Nat) b, words.data.toList[j]? = some b → b.toNat < 128 := fun j b h => by
  have h1 : (words.data.toList.all fun b => decide (b.toNat < 128)) = true := by kernel_rfl
  exact of_decide_eq_true (List.all_eq_true.1 h1 b (List.mem_of_getElem? h))
theorem words_fields : Lib.fields words.data.toList = keys.map fun k => k.data.toList := by kernel_rfl
theorem c_Fields : Trip Tryd.prog 113 [(false, 1)] ([.v (.string (⟨#[118, 97, 114, 32, 102, 108, 97, 103, 32, 97, 114, 114, 97, 121, 32, 105, 102, 32, 102, 111, 114, 107, 32, 101, 108, 115, 101, 32, 101, 110, 100, 32, 119, 104, 105, 108, 101, 32, 117, 110, 114, 111, 108, 108, 32, 97, 115, 115, 101, 114, 116, 32, 97, 115, 115, 117, 109, 101, 32, 105, 110, 112, 117, 116, 32, 115, 112, 108, 105, 116, 32, 109, 101, 114, 103, 101, 32, 116, 114, 117, 101, 32, 102, 97, 108, 115, 101]⟩ : ByteArray))]) [(false, 1)] [.sl true 9 1 (List.map strc (keys))] [] := by
  have h := Trip.row1 (P := Tryd.prog) (f := 113) (x := .string words) (cs := keys.map .string) (e := 9) ⟨_, Tryd.func113, by decide, by decide⟩ rfl (by intro v hv; obtain ⟨s, _, rfl⟩ := List.mem_map.1 hv; rfl) (by decide) fun W Z hL _ =>
    (Any.strings_Fields_core Tryd.lays157 (by kernel_rfl) words W (by decide) words_ascii (asciiTab hL)).mono fun e w' ⟨h1, h2⟩ => by
      rw [words_fields] at h1 h2
      exact ⟨h1, h2⟩
  exact h
theorem c_isWord (s : ByteArray) : Trip Tryd.prog 99 [(false, 1)] ([.v (.string (s))]) [(false, 1)] [.v (.bool (isKey s))] [] := by
 refine Trip.of Tryd.func99 (by decide) (c := _) rfl rfl (Nat.le_of_ble_eq_true rfl) rfl (AftOk.nil _) <| .seq <| .rs fun k1 => .as rfl <| .z <| .seq <| .rs fun k2 => .c0 (c_Fields ) rfl (.dd .nil) (.frz [3, 0] (Frz.of_erase (erase_slo _ _ _ _ _ _ strc_e)) .nil) rfl <| .mv rfl ?_
 refine .c0 (c_ContainsS keys s) rfl (.dd (.dd .nil)) (.own [5, 0] .nil) rfl <| .as rfl <| .z <| .ret ?_
 exact fin0 (.inr rfl) (.one (svB (show (keys.any fun x => strEq s x) = (isKey s) by exact isKey_eq s)) .nil) (.dd .nil) rfl
theorem c_isName (s : ByteArray) (hs : s.size ≤ 9223372036854775807) : Trip Tryd.prog 75 [(false, 1)] ([.v (.string (s))]) [(false, 1)] [.v (.bool (nmOk s))] [] := by
 refine Trip.of Tryd.func75 (by decide) (c := _) rfl rfl (Nat.le_of_ble_eq_true rfl) rfl (AftOk.nil _) <| .seq <| .rs fun k1 => .as rfl <| .z <| .seq <| .seq <| .rs fun k2 => .mv rfl ?_
 refine .g (fun _ τ => ⟨_, .lenStr (.no rfl) rfl t9 rfl rfl rfl rfl rfl τ⟩) <| .mv rfl <| .z <| .block ?_
 refine .loop (X := Nat) (fun ζ => .of [(0, .one (.d (.v (.string (s))))), (5, .one (.d (.v (.int .i64 ((s.size : Int)))))), (6, .one (.d (.v (.int .i64 ((ζ : Int))))))] []) (fun ζ => ζ ≤ s.size ∧ allTo ζ (fun i => decide (97 ≤ byteAt s i ∧ byteAt s i ≤ 122)) = true) (fun ζ => s.size - ζ) ?_ ?_
 ·skip
  exact .here 0 (.of (.cons rfl (.cons rfl (.cons (svI (show (0) = ((0 : Int)) by first | rfl | omega | exact wrap_le (by omega) (by omega) | (rw [wrap_le (by omega) (by omega)]; omega))) .nil))) .nil) (show 0 ≤ s.size ∧ allTo 0 (fun i => decide (97 ≤ byteAt s i ∧ byteAt s i ≤ 122)) = true by exact ⟨by omega, rfl⟩)
 ·rintro j hI
  have hI : j ≤ s.size ∧ allTo j (fun i => decide (97 ≤ byteAt s i ∧ byteAt s i ≤ 122)) = true := hI
  refine .seq <| .rs fun k3 => .bi rfl <| .z <| .seq ?_
  refine .cond (t := decide ((j : Int) < (s.size : Int))) rfl (fun c0 => ?_) (fun c0 => ?_)
  ·have c0 := of_decide_eq_true c0
   refine .skip <| .seq <| .block <| .seq <| .rs fun k4 => .mv rfl <| .as rfl <| .z <| .seq ?_
   refine .rs fun k5 => .mv rfl <| .mv rfl <| .g (fun _ τ => ⟨_, .indexStr (.no rfl) rfl (z := byteAt s j) (j) t9 rfl rfl rfl rfl rfl (b8_get (by omega)) rfl rfl τ⟩) <| .c0 (c_isLetter (byteAt s j)) rfl (.dd .nil) (.own [12, 0] .nil) rfl <| .un rfl <| .z ?_
   refine .cond (t := !(decide ((byteAt s j) ≥ 97) && decide ((byteAt s j) ≤ 122))) rfl (fun c1 => ?_) (fun c1 => ?_)
   ·have c1 := (nT (aF dF dF)) c1
    refine .seq <| .rs fun k6 => .as rfl <| .z <| .ret ?_
    exact fin0 (.inr rfl) (.one (svB (show (false) = (nmOk s) by (simp only [nmOk, letters]; rw [allTo_fail (j := j) (by omega) (by simp only [decide_eq_false_iff_not]; omega)]; rfl))) .nil) (.dd .nil) rfl
   ·have c1 := (nF (aT dT dT)) c1
    refine .skip <| .rs fun k8 => .bi rfl <| .mv rfl <| .z ?_
    exact .here (j + 1) (.of (.cons rfl (.cons rfl (.cons (svI (show (IntKind.wrap .i64 ((j : Int) + 1)) = (((j + 1) : Int)) by first | rfl | omega | exact wrap_le (by omega) (by omega) | (rw [wrap_le (by omega) (by omega)]; omega))) .nil))) .nil) ⟨(show (j + 1) ≤ s.size ∧ allTo (j + 1) (fun i => decide (97 ≤ byteAt s i ∧ byteAt s i ≤ 122)) = true by exact ⟨by omega, allTo_step hI.2 (by simp only [decide_eq_true_eq]; omega)⟩), (show s.size - (j + 1) < s.size - j by omega)⟩
  ·have c0 := of_decide_eq_false c0
   refine .exit <| .seq ?_
   refine .reg (X := Unit) (fun ζ => .of [(2, .one (.d (.v (.bool ((inR (s.size : Int) 1 8 && !(isKey s)))))))] []) [⟨[0], some 15, [], []⟩, ⟨[15], some 16, [], []⟩, ⟨[16], some 17, [], []⟩, ⟨[17], some 18, [], []⟩, ⟨[18, 0], some 19, [], []⟩, ⟨[18, 19], some 20, [], []⟩, ⟨[18, 20], some 21, [], []⟩, ⟨[18, 21], some 22, [], []⟩, ⟨[22], some 2, [], []⟩] (fun k9 => ?_) ?_
   ·skip
    refine .move (.no rfl) rfl rfl rfl rfl <| .lenStr (.no rfl) rfl t9 rfl rfl rfl rfl rfl <| .call (.no rfl) rfl [] [] (c_within (s.size : Int) 1 8) rfl rfl rfl rfl rfl (.dd (.dd (.dd .nil))) rfl rfl (fun h => absurd rfl h) (.own [17, 0] .nil) (.nil) rfl rfl rfl (by simp) rfl rfl rfl <| .moveB (.no rfl) rfl rfl rfl rfl fun b10 g7_3 => ?_
    cases b10
    ·skip
     refine .off rfl rfl rfl rfl rfl rfl rfl <| .off rfl rfl rfl rfl rfl rfl rfl <| .off rfl rfl rfl rfl rfl rfl rfl <| .pick (.no rfl) rfl rfl rfl rfl rfl <| .assign (.no rfl) rfl rfl rfl rfl ?_
     exact .fin () (.of (.cons (svB (show (false) = ((inR (s.size : Int) 1 8 && !(isKey s))) by first | (simp only [g7_3, Bool.true_or, Bool.false_or, Bool.true_and, Bool.false_and, Bool.not_true, Bool.not_false]; done) | (simp [g7_3]; done) | (exfalso; simp_all; done))) .nil) .nil)
    ·skip
     refine .move (.on rfl rfl rfl rfl rfl) rfl rfl rfl rfl <| .call (.on rfl rfl rfl rfl rfl) rfl [] [] (c_isWord s) rfl rfl rfl rfl rfl (.dd .nil) rfl rfl (fun h => absurd rfl h) (.own [20, 0] .nil) (.nil) rfl rfl rfl (by simp) rfl rfl rfl <| .un (.on rfl rfl rfl rfl rfl) rfl rfl rfl rfl rfl <| .pick (.no rfl) rfl rfl rfl rfl rfl <| .assign (.no rfl) rfl rfl rfl rfl ?_
     exact .fin () (.of (.cons (svB (show (!(isKey s)) = ((inR (s.size : Int) 1 8 && !(isKey s))) by first | (simp only [g7_3, Bool.true_or, Bool.false_or, Bool.true_and, Bool.false_and, Bool.not_true, Bool.not_false]; done) | (simp [g7_3]; done) | (exfalso; simp_all; done))) .nil) .nil)
   intro _
   refine .ret ?_
   exact fin0 (.inr rfl) (.one (svB (show ((inR (s.size : Int) 1 8 && !(isKey s))) = (nmOk s) by (have hj : j = s.size := (by omega); subst hj; simp only [nmOk, letters]; rw [hI.2]; rfl))) .nil) (.dd .nil) rfl
theorem c_isRight1 (a : Arr) : Trip Tryd.prog 77 [(true, 2)] (Arr.c a) [(false, 1)] [.v (.bool (inR a.size 1 16))] [] := by
 refine Trip.of Tryd.func77 (by decide) (c := _) rfl rfl (Nat.le_of_ble_eq_true rfl) rfl (AftOk.nil _) <| .seq <| .rs fun k1 => .g (fun _ τ => ⟨_, .box (.no rfl) rfl rfl rfl rfl rfl τ⟩) <| .as rfl <| .z <| .seq <| .rs fun k2 => .fp t78 t2 rfl ?_
 refine .ld t2 rfl (.ptr _ _ _ _ _ rfl) rfl <| .c0 (c_within a.size 1 16) rfl (.dd (.dd (.dd .nil))) (.own [5, 0] .nil) rfl <| .as rfl <| .z <| .ret ?_
 exact fin0 (.inr rfl) (.one rfl .nil) (.dd .nil) rfl
theorem c_isRight (d : Decl) (hs : ∀ x ∈ Decl.names d, x.size ≤ 9223372036854775807) (hb : d.vars.length ≤ 1048576 ∧ d.flags.length ≤ 1048576 ∧ d.arrays.length ≤ 1048576) : Trip Tryd.prog 50 [(true, 3)] (Decl.c36 d) [(false, 1)] [.v (.bool (Decl.ok d))] [] := by
 refine Trip.of Tryd.func50 (by decide) (c := _) rfl rfl (Nat.le_of_ble_eq_true rfl) rfl (AftOk.nil _) <| .sla (t := 0) 0 rfl rfl fun hs1l => .sla (t := 0) 1 rfl rfl fun hs2l => .sla (t := 0) 2 rfl rfl fun hs3l => .seq <| .rs fun k4 => .g (fun _ τ => ⟨_, .box (.no rfl) rfl rfl rfl rfl rfl τ⟩) <| .as rfl <| .z ?_
 refine .seq <| .rs fun k5 => .lda t36 rfl (.ptr _ _ _ _ _ rfl) rfl <| .c0 (c_names d (by first | assumption | omega | exact hs _ (getD_mem (by omega)))) rfl (.dd (.dd (.dd .nil))) (.frz [8, 0] (Frz.of_erase (erase_slo _ _ _ _ _ _ strc_e)) .nil) rfl <| .as rfl <| .z <| .seq <| .seq <| .rs fun k6 => ?_
 refine .mv rfl <| .g (fun _ τ => ⟨_, .len (.no rfl) rfl (z := ((Decl.names d).length : Int)) t33 rfl rfl rfl (.d _ _) (map_len _ _) rfl τ⟩) <| .mv rfl <| .z <| .block ?_
 refine .loop (X := Nat) (fun ζ => .of [(1, .one (.ptr [1] (k4) 0)), (3, .one (.d (.sl false 9 1 (List.map strc (Decl.names d))))), (9, .one (.d (.sl false 9 1 (List.map strc (Decl.names d))))), (10, .one (.d (.v (.int .i64 (((Decl.names d).length : Int)))))), (11, .one (.d (.v (.int .i64 ((ζ : Int))))))] [([1], (k4, k4, .box [.d (.sl false 9 1 (List.map strc (d.vars))), .d (.sl false 9 1 (List.map strc (d.flags))), .d (.sl false 78 2 (List.map Arr.c (d.arrays)))]))]) (fun ζ => ζ ≤ (Decl.names d).length ∧ allTo ζ (nameOk (Decl.names d)) = true) (fun ζ => (Decl.names d).length - ζ) ?_ ?_
 ·skip
  exact .here 0 (.of (.cons rfl (.cons rfl (.cons rfl (.cons rfl (.cons (svI (show (0) = ((0 : Int)) by first | rfl | omega | exact wrap_le (by omega) (by omega) | (rw [wrap_le (by omega) (by omega)]; omega))) .nil))))) (.r rfl)) (show 0 ≤ (Decl.names d).length ∧ allTo 0 (nameOk (Decl.names d)) = true by exact ⟨by omega, rfl⟩)
 ·rintro j hI
  have hI : j ≤ (Decl.names d).length ∧ allTo j (nameOk (Decl.names d)) = true := hI
  have hn9 : (Decl.names d).length ≤ 3145728 := by simp [Decl.names]; omega
  refine .seq <| .rs fun k7 => .bi rfl <| .z <| .seq ?_
  refine .cond (t := decide ((j : Int) < ((Decl.names d).length : Int))) rfl (fun c0 => ?_) (fun c0 => ?_)
  ·have c0 := of_decide_eq_true c0
   refine .skip <| .seq <| .block <| .seq <| .rs fun k8 => .mv rfl <| .g (fun _ τ => ⟨_, .indexAddr (.no rfl) rfl (j) t33 rfl t9 rfl rfl rfl (.d _ _) rfl rfl rfl (map_get (by omega)) rfl rfl τ⟩) <| .ld t9 rfl (.d _) rfl <| .as rfl ?_
   refine .as rfl <| .z <| .seq ?_
   refine .reg (X := Unit) (fun ζ => .of [(1, .one (.ptr [1] (k4) 0)), (3, .one (.d (.sl false 9 1 (List.map strc (Decl.names d))))), (9, .one (.d (.sl false 9 1 (List.map strc (Decl.names d))))), (10, .one (.d (.v (.int .i64 (((Decl.names d).length : Int)))))), (11, .one (.d (.v (.int .i64 ((j : Int)))))), (25, .one (.d (.v (.bool ((!(nmOk ((Decl.names d).getD (j) default)) || ((Decl.names d).take j).any fun x => strEq ((Decl.names d).getD (j) default) x))))))] [([1], (k4, k4, .box [.d (.sl false 9 1 (List.map strc (d.vars))), .d (.sl false 9 1 (List.map strc (d.flags))), .d (.sl false 78 2 (List.map Arr.c (d.arrays)))]))]) [⟨[5], some 16, [], []⟩, ⟨[16], some 17, [], []⟩, ⟨[17], some 18, [], []⟩, ⟨[18], some 19, [], []⟩, ⟨[19, 3], some 20, [], []⟩, ⟨[19, 4], some 21, [], []⟩, ⟨[19, 20, 21], some 22, [], []⟩, ⟨[19, 5], some 23, [], []⟩, ⟨[19, 22, 23], some 24, [], []⟩, ⟨[19, 24], some 25, [], []⟩] (fun k9 => ?_) ?_
   ·skip
    refine .move (.no rfl) rfl rfl rfl rfl <| .call (.no rfl) rfl [] [] (c_isName ((Decl.names d).getD (j) default) (by first | assumption | omega | exact hs _ (getD_mem (by omega)))) rfl rfl rfl rfl rfl (.dd .nil) rfl rfl (fun h => absurd rfl h) (.own [17, 0] .nil) (.nil) rfl rfl rfl (by simp) rfl rfl rfl <| .un (.no rfl) rfl rfl rfl rfl rfl <| .moveB (.no rfl) rfl rfl rfl rfl fun b10 g5_3 => ?_
    cases b10
    ·skip
     refine .move (.on rfl rfl rfl rfl rfl) rfl rfl rfl rfl <| .move (.on rfl rfl rfl rfl rfl) rfl rfl rfl rfl <| .slice (.on rfl rfl rfl rfl rfl) rfl (lv := 0) (hv := j) (m := 0) t33 rfl t9 rfl rfl (.d _ _) rfl (by intro _ _ h; cases h) (by exact rfl) (by exact ⟨_, rfl⟩) (Nat.zero_le _) (le_map (by omega)) (cut_d0 _ _ _ _ _ _ _ _ _) rfl <| .move (.on rfl rfl rfl rfl rfl) rfl rfl rfl rfl <| .call (.on rfl rfl rfl rfl rfl) rfl [] [] (c_ContainsS ((Decl.names d).take j) ((Decl.names d).getD (j) default)) rfl rfl rfl rfl rfl (.dd (.dd .nil)) rfl rfl (fun h => absurd rfl h) (.own [24, 0] .nil) (.nil) rfl rfl rfl (by simp) rfl rfl rfl <| .pick (.no rfl) rfl rfl rfl rfl rfl ?_
     exact .fin () (.of (.cons rfl (.cons rfl (.cons rfl (.cons rfl (.cons rfl (.cons (svB (show (((Decl.names d).take j).any fun x => strEq ((Decl.names d).getD (j) default) x) = ((!(nmOk ((Decl.names d).getD (j) default)) || ((Decl.names d).take j).any fun x => strEq ((Decl.names d).getD (j) default) x)) by first | (simp only [g5_3, Bool.true_or, Bool.false_or, Bool.true_and, Bool.false_and, Bool.not_true, Bool.not_false]; done) | (simp [g5_3]; done) | (exfalso; simp_all; done))) .nil)))))) (.r rfl))
    ·skip
     refine .off rfl rfl rfl rfl rfl rfl rfl <| .off rfl rfl rfl rfl rfl rfl rfl <| .off rfl rfl rfl rfl rfl rfl rfl <| .off rfl rfl rfl rfl rfl rfl rfl <| .off rfl rfl rfl rfl rfl rfl rfl <| .pick (.no rfl) rfl rfl rfl rfl rfl ?_
     exact .fin () (.of (.cons rfl (.cons rfl (.cons rfl (.cons rfl (.cons rfl (.cons (svB (show (true) = ((!(nmOk ((Decl.names d).getD (j) default)) || ((Decl.names d).take j).any fun x => strEq ((Decl.names d).getD (j) default) x)) by first | (simp only [g5_3, Bool.true_or, Bool.false_or, Bool.true_and, Bool.false_and, Bool.not_true, Bool.not_false]; done) | (simp [g5_3]; done) | (exfalso; simp_all; done))) .nil)))))) (.r rfl))
   intro _
   refine .cond (t := (!(nmOk ((Decl.names d).getD (j) default)) || ((Decl.names d).take j).any fun x => strEq ((Decl.names d).getD (j) default) x)) rfl (fun c1 => ?_) (fun c1 => ?_)
   ·have c1 := (oT (nT id) id) c1
    refine .seq <| .rs fun k11 => .as rfl <| .z <| .ret ?_
    exact fin0 (.inr rfl) (.one (svB (show (false) = (Decl.ok d) by exact (Decl.ok_name2 (j := j) (by omega) c1).symm)) .nil) (.dd .nil) rfl
   ·have c1 := (oF (nF id) id) c1
    refine .skip <| .rs fun k13 => .bi rfl <| .mv rfl <| .z ?_
    exact .here (j + 1) (.of (.cons rfl (.cons rfl (.cons rfl (.cons rfl (.cons (svI (show (IntKind.wrap .i64 ((j : Int) + 1)) = (((j + 1) : Int)) by first | rfl | omega | exact wrap_le (by omega) (by omega) | (rw [wrap_le (by omega) (by omega)]; omega))) .nil))))) (.r rfl)) ⟨(show (j + 1) ≤ (Decl.names d).length ∧ allTo (j + 1) (nameOk (Decl.names d)) = true by exact ⟨by omega, allTo_step hI.2 (nameOk_of2 c1)⟩), (show (Decl.names d).length - (j + 1) < (Decl.names d).length - j by omega)⟩
  ·have c0 := of_decide_eq_false c0
   refine .exit <| .seq <| .rs fun k14 => .as rfl <| .z <| .seq ?_
   refine .reg (X := Unit) (fun ζ => .of [(2, .one (.d (.v (.bool ((((decide ((d.vars.length : Int) ≤ 5) && decide ((d.flags.length : Int) ≤ 3)) && decide ((d.arrays.length : Int) ≤ 2)) && d.arrays.all (fun x0 => inR x0.size 1 16)))))))] []) [⟨[1], some 27, [], []⟩, ⟨[27], some 28, [[1]], []⟩, ⟨[28], some 29, [], []⟩, ⟨[29], some 30, [], []⟩, ⟨[30], some 31, [], []⟩, ⟨[31, 1], some 32, [], []⟩, ⟨[31, 32], some 33, [[1]], []⟩, ⟨[31, 33], some 34, [], []⟩, ⟨[31, 34], some 35, [], []⟩, ⟨[31, 35], some 36, [], []⟩, ⟨[36], some 37, [], []⟩, ⟨[37, 1], some 38, [], []⟩, ⟨[37, 38], some 39, [[1]], []⟩, ⟨[37, 39], some 40, [], []⟩, ⟨[37, 40], some 41, [], []⟩, ⟨[37, 41], some 42, [], []⟩, ⟨[42], some 43, [], []⟩, ⟨[43, 1], some 44, [], []⟩, ⟨[43, 44], some 45, [[1]], []⟩, ⟨[43, 6], some 46, [], []⟩, ⟨[43, 45, 46], some 47, [], []⟩, ⟨[43, 47], some 48, [], []⟩, ⟨[48], some 2, [], []⟩] (fun k15 => ?_) ?_
   ·skip
    refine .fieldAddrP (.no rfl) rfl t36 rfl rfl t33 rfl rfl rfl rfl <| .load (.no rfl) rfl t33 rfl rfl (.ptr _ _ _ _ _ rfl) rfl rfl rfl rfl <| .len (.no rfl) rfl (z := (d.vars.length : Int)) t33 rfl rfl rfl (.d _ _) (map_len _ _) rfl <| .bin (.no rfl) rfl rfl rfl rfl rfl rfl <| .moveB (.no rfl) rfl rfl rfl rfl fun b16 g9_4 => ?_
    cases b16
    ·skip
     refine .off rfl rfl rfl rfl rfl rfl rfl <| .off rfl rfl rfl rfl rfl rfl rfl <| .off rfl rfl rfl rfl rfl rfl rfl <| .off rfl rfl rfl rfl rfl rfl rfl <| .pick (.no rfl) rfl rfl rfl rfl rfl <| .move (.no rfl) rfl rfl rfl rfl <| .off rfl rfl rfl rfl rfl rfl rfl <| .off rfl rfl rfl rfl rfl rfl rfl <| .off rfl rfl rfl rfl rfl rfl rfl ?_
     refine .off rfl rfl rfl rfl rfl rfl rfl <| .pick (.no rfl) rfl rfl rfl rfl rfl <| .move (.no rfl) rfl rfl rfl rfl <| .off rfl rfl rfl rfl rfl rfl rfl <| .off rfl rfl rfl rfl rfl rfl rfl <| .off rfl rfl rfl rfl rfl rfl rfl <| .off rfl rfl rfl rfl rfl rfl rfl <| .pick (.no rfl) rfl rfl rfl rfl rfl <| .assign (.no rfl) rfl rfl rfl rfl ?_
     exact .fin () (.of (.cons (svB (show (false) = ((((decide ((d.vars.length : Int) ≤ 5) && decide ((d.flags.length : Int) ≤ 3)) && decide ((d.arrays.length : Int) ≤ 2)) && d.arrays.all (fun x0 => inR x0.size 1 16))) by first | (simp only [g9_4, Bool.true_or, Bool.false_or, Bool.true_and, Bool.false_and, Bool.not_true, Bool.not_false]; done) | (simp [g9_4]; done) | (exfalso; simp_all; done))) .nil) .nil)
    ·skip
     refine .fieldAddrP (.on rfl rfl rfl rfl rfl) rfl t36 rfl rfl t33 rfl rfl rfl rfl <| .load (.on rfl rfl rfl rfl rfl) rfl t33 rfl rfl (.ptr _ _ _ _ _ rfl) rfl rfl rfl rfl <| .len (.on rfl rfl rfl rfl rfl) rfl (z := (d.flags.length : Int)) t33 rfl rfl rfl (.d _ _) (map_len _ _) rfl <| .bin (.on rfl rfl rfl rfl rfl) rfl rfl rfl rfl rfl rfl <| .pick (.no rfl) rfl rfl rfl rfl rfl <| .moveB (.no rfl) rfl rfl rfl rfl fun b17 g9_10 => ?_
     cases b17
     ·skip
      refine .off rfl rfl rfl rfl rfl rfl rfl <| .off rfl rfl rfl rfl rfl rfl rfl <| .off rfl rfl rfl rfl rfl rfl rfl <| .off rfl rfl rfl rfl rfl rfl rfl <| .pick (.no rfl) rfl rfl rfl rfl rfl <| .move (.no rfl) rfl rfl rfl rfl <| .off rfl rfl rfl rfl rfl rfl rfl <| .off rfl rfl rfl rfl rfl rfl rfl <| .off rfl rfl rfl rfl rfl rfl rfl ?_
      refine .off rfl rfl rfl rfl rfl rfl rfl <| .pick (.no rfl) rfl rfl rfl rfl rfl <| .assign (.no rfl) rfl rfl rfl rfl ?_
      exact .fin () (.of (.cons (svB (show (false) = ((((decide ((d.vars.length : Int) ≤ 5) && decide ((d.flags.length : Int) ≤ 3)) && decide ((d.arrays.length : Int) ≤ 2)) && d.arrays.all (fun x0 => inR x0.size 1 16))) by first | (simp only [g9_4, g9_10, Bool.true_or, Bool.false_or, Bool.true_and, Bool.false_and, Bool.not_true, Bool.not_false]; done) | (simp [g9_4, g9_10]; done) | (exfalso; simp_all; done))) .nil) .nil)
     ·skip
      refine .fieldAddrP (.on rfl rfl rfl rfl rfl) rfl t36 rfl rfl t34 rfl rfl rfl rfl <| .load (.on rfl rfl rfl rfl rfl) rfl t34 rfl rfl (.ptr _ _ _ _ _ rfl) rfl rfl rfl rfl <| .len (.on rfl rfl rfl rfl rfl) rfl (z := (d.arrays.length : Int)) t34 rfl rfl rfl (.d _ _) (map_len _ _) rfl <| .bin (.on rfl rfl rfl rfl rfl) rfl rfl rfl rfl rfl rfl <| .pick (.no rfl) rfl rfl rfl rfl rfl <| .moveB (.no rfl) rfl rfl rfl rfl fun b18 g9_16 => ?_
      cases b18
      ·skip
       refine .off rfl rfl rfl rfl rfl rfl rfl <| .off rfl rfl rfl rfl rfl rfl rfl <| .off rfl rfl rfl rfl rfl rfl rfl <| .off rfl rfl rfl rfl rfl rfl rfl <| .pick (.no rfl) rfl rfl rfl rfl rfl <| .assign (.no rfl) rfl rfl rfl rfl ?_
       exact .fin () (.of (.cons (svB (show (false) = ((((decide ((d.vars.length : Int) ≤ 5) && decide ((d.flags.length : Int) ≤ 3)) && decide ((d.arrays.length : Int) ≤ 2)) && d.arrays.all (fun x0 => inR x0.size 1 16))) by first | (simp only [g9_4, g9_10, g9_16, Bool.true_or, Bool.false_or, Bool.true_and, Bool.false_and, Bool.not_true, Bool.not_false]; done) | (simp [g9_4, g9_10, g9_16]; done) | (exfalso; simp_all; done))) .nil) .nil)
      ·skip
       refine .fieldAddrP (.on rfl rfl rfl rfl rfl) rfl t36 rfl rfl t34 rfl rfl rfl rfl <| .load (.on rfl rfl rfl rfl rfl) rfl t34 rfl rfl (.ptr _ _ _ _ _ rfl) rfl rfl rfl rfl <| .move (.on rfl rfl rfl rfl rfl) rfl rfl rfl rfl <| .call (.on rfl rfl rfl rfl rfl) rfl [] [] (c_areAllA d.arrays 77 [] [] (fun x0 => inR x0.size 1 16) (fun x0 => c_isRight1 x0)) rfl rfl rfl rfl rfl (.dd (.dd .nil)) rfl rfl (fun h => absurd rfl h) (.own [47, 0] .nil) (.nil) rfl rfl rfl (by simp) rfl rfl rfl <| .pick (.no rfl) rfl rfl rfl rfl rfl <| .assign (.no rfl) rfl rfl rfl rfl ?_
       exact .fin () (.of (.cons (svB (show (d.arrays.all (fun x0 => inR x0.size 1 16)) = ((((decide ((d.vars.length : Int) ≤ 5) && decide ((d.flags.length : Int) ≤ 3)) && decide ((d.arrays.length : Int) ≤ 2)) && d.arrays.all (fun x0 => inR x0.size 1 16))) by first | (simp only [g9_4, g9_10, g9_16, Bool.true_or, Bool.false_or, Bool.true_and, Bool.false_and, Bool.not_true, Bool.not_false]; done) | (simp [g9_4, g9_10, g9_16]; done) | (exfalso; simp_all; done))) .nil) .nil)
   intro _
   refine .ret ?_
   exact fin0 (.inr rfl) (.one (svB (show ((((decide ((d.vars.length : Int) ≤ 5) && decide ((d.flags.length : Int) ≤ 3)) && decide ((d.arrays.length : Int) ≤ 2)) && d.arrays.all (fun x0 => inR x0.size 1 16))) = (Decl.ok d) by exact Decl.ok_right (j := j) (by omega) hI.2)) .nil) (.dd .nil) rfl
end Go.Proofs

namespace Go.Proofs
open Go Go.Proofs Go.Ev

theorem c_areIvs (a : Iv) (b : Iv) : Trip Tryd.prog 27 [(true, 2), (true, 2)] (Iv.c a ++ Iv.c b) [(false, 1)] [.v (.bool (Iv.ok a && Iv.ok b))] [] := by
 refine Trip.of Tryd.func27 (by decide) (c := _) rfl rfl (Nat.le_of_ble_eq_true rfl) rfl (AftOk.nil _) <| .seq <| .rs fun k1 => .g (fun _ τ => ⟨_, .box (.no rfl) rfl rfl rfl rfl rfl τ⟩) <| .g (fun _ τ => ⟨_, .box (.no rfl) rfl rfl rfl rfl rfl τ⟩) <| .as rfl <| .z <| .seq ?_
 refine .reg (X := Unit) (fun ζ => .of [(4, .one (.d (.v (.bool ((Iv.ok a && Iv.ok b))))))] []) [⟨[2], some 5, [[2]], []⟩, ⟨[5], some 6, [], []⟩, ⟨[6], some 7, [], []⟩, ⟨[7, 3], some 8, [[3]], []⟩, ⟨[7, 8], some 9, [], []⟩, ⟨[7, 9], some 10, [], []⟩, ⟨[10], some 4, [], []⟩] (fun k2 => ?_) ?_
 ·skip
  refine .load (.no rfl) rfl t25 rfl rfl (.ptr _ _ _ _ _ rfl) rfl rfl rfl rfl <| .call (.no rfl) rfl [] [] (c_IvOk a) rfl rfl rfl rfl rfl (.dd (.dd .nil)) rfl rfl (fun h => absurd rfl h) (.own [6, 0] .nil) (.nil) rfl rfl rfl (by simp) rfl rfl rfl <| .moveB (.no rfl) rfl rfl rfl rfl fun b3 g1_2 => ?_
  cases b3
  ·skip
   refine .off rfl rfl rfl rfl rfl rfl rfl <| .off rfl rfl rfl rfl rfl rfl rfl <| .pick (.no rfl) rfl rfl rfl rfl rfl <| .assign (.no rfl) rfl rfl rfl rfl ?_
   exact .fin () (.of (.cons (svB (show (false) = ((Iv.ok a && Iv.ok b)) by first | (simp only [g1_2, Bool.true_or, Bool.false_or, Bool.true_and, Bool.false_and, Bool.not_true, Bool.not_false]; done) | (simp [g1_2]; done) | (exfalso; simp_all; done))) .nil) .nil)
  ·skip
   refine .load (.on rfl rfl rfl rfl rfl) rfl t25 rfl rfl (.ptr _ _ _ _ _ rfl) rfl rfl rfl rfl <| .call (.on rfl rfl rfl rfl rfl) rfl [] [] (c_IvOk b) rfl rfl rfl rfl rfl (.dd (.dd .nil)) rfl rfl (fun h => absurd rfl h) (.own [9, 0] .nil) (.nil) rfl rfl rfl (by simp) rfl rfl rfl <| .pick (.no rfl) rfl rfl rfl rfl rfl <| .assign (.no rfl) rfl rfl rfl rfl ?_
   exact .fin () (.of (.cons (svB (show (Iv.ok b) = ((Iv.ok a && Iv.ok b)) by first | (simp only [g1_2, Bool.true_or, Bool.false_or, Bool.true_and, Bool.false_and, Bool.not_true, Bool.not_false]; done) | (simp [g1_2]; done) | (exfalso; simp_all; done))) .nil) .nil)
 intro _
 refine .ret ?_
 exact fin0 (.inr rfl) (.one (svB (show ((Iv.ok a && Iv.ok b)) = (Iv.ok a && Iv.ok b) by rfl)) .nil) (.dd .nil) rfl
end Go.Proofs

namespace Go.Proofs
open Go Go.Proofs Go.Ev

theorem c_sizeS (l : List ByteArray) : Trip Tryd.prog 85 [(false, 1)] ([.sl false 9 1 (List.map strc (l))]) [(false, 1)] [.v (.int .i64 ((l.length : Int)))] [] := by
 refine Trip.of Tryd.func85 (by decide) (c := _) rfl rfl (Nat.le_of_ble_eq_true rfl) rfl (AftOk.nil _) <| .sl (t := 0) rfl fun hs1l => .seq <| .rs fun k2 => .as rfl <| .z <| .seq <| .rs fun k3 => .mv rfl ?_
 refine .g (fun _ τ => ⟨_, .len (.no rfl) rfl (z := (l.length : Int)) t33 rfl rfl rfl (.d _ _) (map_len _ _) rfl τ⟩) <| .as rfl <| .z <| .ret ?_
 exact fin0 (.inr rfl) (.one rfl .nil) (.dd .nil) rfl
end Go.Proofs

namespace Go.Proofs
open Go Go.Proofs Go.Ev

theorem c_sIvMeet (a : Iv) (b : Iv) : Trip Tryd.prog 31 [(true, 2), (true, 2)] (Iv.c a ++ Iv.c b) [(true, 2), (false, 1)] [.v (.int .i64 ((Iv.meetOk a b).lo)), .v (.int .i64 ((Iv.meetOk a b).hi)), .v (.bool (Iv.meets a b))] [] := by
 refine Trip.of Tryd.func31 (by decide) (c := _) rfl rfl (Nat.le_of_ble_eq_true rfl) rfl (AftOk.nil _) <| .seq <| .rs fun k1 => .g (fun _ τ => ⟨_, .box (.no rfl) rfl rfl rfl rfl rfl τ⟩) <| .g (fun _ τ => ⟨_, .box (.no rfl) rfl rfl rfl rfl rfl τ⟩) <| .g (fun _ τ => ⟨_, .alloc (.no rfl) rfl z25 rfl rfl rfl τ⟩) <| .as rfl <| .z <| .seq ?_
 refine .rs fun k2 => .fp t25 t2 rfl <| .ld t2 rfl (.ptr _ _ _ _ _ rfl) rfl <| .fp t25 t2 rfl <| .ld t2 rfl (.ptr _ _ _ _ _ rfl) rfl <| .g (fun _ τ => ⟨_, .max (.no rfl) rfl rfl rfl rfl (max_of _ _) rfl τ⟩) <| .fp t25 t2 rfl <| .ld t2 rfl (.ptr _ _ _ _ _ rfl) rfl <| .fp t25 t2 rfl ?_
 refine .ld t2 rfl (.ptr _ _ _ _ _ rfl) rfl <| .g (fun _ τ => ⟨_, .min (.no rfl) rfl rfl rfl rfl (min_of _ _) rfl τ⟩) <| .g (fun _ τ => ⟨_, .build (.no rfl) rfl z25 rfl p25 rfl rfl rfl rfl τ⟩) <| .g (fun _ τ => ⟨_, .alloc (.no rfl) rfl z25 rfl rfl rfl τ⟩) <| .g (fun _ τ => ⟨_, .store (.no rfl) rfl t25 rfl rfl rfl rfl rfl rfl rfl rfl rfl τ⟩) <| .z <| .seq <| .seq ?_
 refine .reg (X := Unit) (fun ζ => .of [(4, .one (.ptr [4] (k1 + 1 + 1) 0)), (6, .one (.ptr [6] (k2 + 1 + 1 + 1 + 1 + 1 + 1 + 1 + 1 + 1 + 1 + 1) 0)), (30, .one (.d (.v (.bool (((!(Iv.ok a) || !(Iv.ok b)) || !(Iv.ok (Iv.mk (max a.lo b.lo) (min a.hi b.hi)))))))))] [([4], (k1 + 1 + 1, k1 + 1 + 1, .box [.d (.v (.int .i64 (0))), .d (.v (.int .i64 (0)))])), ([6], (k2 + 1 + 1 + 1 + 1 + 1 + 1 + 1 + 1 + 1 + 1 + 1, k2 + 1 + 1 + 1 + 1 + 1 + 1 + 1 + 1 + 1 + 1 + 1 + 1, .box [.d (.v (.int .i64 (max a.lo b.lo))), .d (.v (.int .i64 (min a.hi b.hi)))]))]) [⟨[2], some 18, [[2]], []⟩, ⟨[18], some 19, [], []⟩, ⟨[19], some 20, [], []⟩, ⟨[20], some 21, [], []⟩, ⟨[21, 3], some 22, [[3]], []⟩, ⟨[21, 22], some 23, [], []⟩, ⟨[21, 23], some 24, [], []⟩, ⟨[21, 24], some 25, [], []⟩, ⟨[25], some 26, [], []⟩, ⟨[26, 6], some 27, [[6]], []⟩, ⟨[26, 27], some 28, [], []⟩, ⟨[26, 28], some 29, [], []⟩, ⟨[26, 29], some 30, [], []⟩] (fun k3 => ?_) ?_
 ·skip
  refine .load (.no rfl) rfl t25 rfl rfl (.ptr _ _ _ _ _ rfl) rfl rfl rfl rfl <| .call (.no rfl) rfl [] [] (c_sIvOk a) rfl rfl rfl rfl rfl (.dd (.dd .nil)) rfl rfl (fun h => absurd rfl h) (.own [19, 0] .nil) (.nil) rfl rfl rfl (by simp) rfl rfl rfl <| .un (.no rfl) rfl rfl rfl rfl rfl <| .moveB (.no rfl) rfl rfl rfl rfl fun b4 g2_3 => ?_
  cases b4
  ·skip
   refine .load (.on rfl rfl rfl rfl rfl) rfl t25 rfl rfl (.ptr _ _ _ _ _ rfl) rfl rfl rfl rfl <| .call (.on rfl rfl rfl rfl rfl) rfl [] [] (c_sIvOk b) rfl rfl rfl rfl rfl (.dd (.dd .nil)) rfl rfl (fun h => absurd rfl h) (.own [23, 0] .nil) (.nil) rfl rfl rfl (by simp) rfl rfl rfl <| .un (.on rfl rfl rfl rfl rfl) rfl rfl rfl rfl rfl <| .pick (.no rfl) rfl rfl rfl rfl rfl <| .moveB (.no rfl) rfl rfl rfl rfl fun b5 g2_8 => ?_
   cases b5
   ·skip
    refine .load (.on rfl rfl rfl rfl rfl) rfl t25 rfl rfl (.ptr _ _ _ _ _ rfl) rfl rfl rfl rfl <| .call (.on rfl rfl rfl rfl rfl) rfl [] [] (c_sIvOk (Iv.mk (max a.lo b.lo) (min a.hi b.hi))) rfl rfl rfl rfl rfl (.dd (.dd .nil)) rfl rfl (fun h => absurd rfl h) (.own [28, 0] .nil) (.nil) rfl rfl rfl (by simp) rfl rfl rfl <| .un (.on rfl rfl rfl rfl rfl) rfl rfl rfl rfl rfl <| .pick (.no rfl) rfl rfl rfl rfl rfl ?_
    exact .fin () (.of (.cons rfl (.cons rfl (.cons (svB (show (!(Iv.ok (Iv.mk (max a.lo b.lo) (min a.hi b.hi)))) = (((!(Iv.ok a) || !(Iv.ok b)) || !(Iv.ok (Iv.mk (max a.lo b.lo) (min a.hi b.hi))))) by first | (simp only [g2_3, g2_8, Bool.true_or, Bool.false_or, Bool.true_and, Bool.false_and, Bool.not_true, Bool.not_false]; done) | (simp [g2_3, g2_8]; done) | (exfalso; simp_all; done))) .nil))) (.r rfl))
   ·skip
    refine .off rfl rfl rfl rfl rfl rfl rfl <| .off rfl rfl rfl rfl rfl rfl rfl <| .off rfl rfl rfl rfl rfl rfl rfl <| .pick (.no rfl) rfl rfl rfl rfl rfl ?_
    exact .fin () (.of (.cons rfl (.cons rfl (.cons (svB (show (true) = (((!(Iv.ok a) || !(Iv.ok b)) || !(Iv.ok (Iv.mk (max a.lo b.lo) (min a.hi b.hi))))) by first | (simp only [g2_3, g2_8, Bool.true_or, Bool.false_or, Bool.true_and, Bool.false_and, Bool.not_true, Bool.not_false]; done) | (simp [g2_3, g2_8]; done) | (exfalso; simp_all; done))) .nil))) (.r rfl))
  ·skip
   refine .off rfl rfl rfl rfl rfl rfl rfl <| .off rfl rfl rfl rfl rfl rfl rfl <| .off rfl rfl rfl rfl rfl rfl rfl <| .pick (.no rfl) rfl rfl rfl rfl rfl <| .move (.no rfl) rfl rfl rfl rfl <| .off rfl rfl rfl rfl rfl rfl rfl <| .off rfl rfl rfl rfl rfl rfl rfl <| .off rfl rfl rfl rfl rfl rfl rfl <| .pick (.no rfl) rfl rfl rfl rfl rfl ?_
   exact .fin () (.of (.cons rfl (.cons rfl (.cons (svB (show (true) = (((!(Iv.ok a) || !(Iv.ok b)) || !(Iv.ok (Iv.mk (max a.lo b.lo) (min a.hi b.hi))))) by first | (simp only [g2_3, Bool.true_or, Bool.false_or, Bool.true_and, Bool.false_and, Bool.not_true, Bool.not_false]; done) | (simp [g2_3]; done) | (exfalso; simp_all; done))) .nil))) (.r rfl))
 intro _
 refine .cond (t := ((!(Iv.ok a) || !(Iv.ok b)) || !(Iv.ok (Iv.mk (max a.lo b.lo) (min a.hi b.hi))))) rfl (fun c0 => ?_) (fun c0 => ?_)
 ·have c0 := (oT (oT (nT id) (nT id)) (nT id)) c0
  refine .seq <| .rs fun k6 => .g (fun _ τ => ⟨_, .build (.no rfl) rfl z25 rfl p25 rfl rfl rfl rfl τ⟩) <| .g (fun _ τ => ⟨_, .store (.no rfl) rfl t25 rfl rfl rfl rfl rfl rfl rfl rfl rfl τ⟩) <| .as rfl <| .z <| .ret ?_
  have e7 : (0) = ((Iv.meetOk a b).lo) := by first | (rw [Iv.meets_no c0]) | (rw [Iv.meets_yes c0]) | (unfold Iv.meetOk; rw [Iv.meets_no c0]; rfl) | (unfold Iv.meetOk; rw [Iv.meets_yes c0]; rfl)
  have e8 : (0) = ((Iv.meetOk a b).hi) := by first | (rw [Iv.meets_no c0]) | (rw [Iv.meets_yes c0]) | (unfold Iv.meetOk; rw [Iv.meets_no c0]; rfl) | (unfold Iv.meetOk; rw [Iv.meets_yes c0]; rfl)
  have hc9 := eq2 (fun z1 z2 => some (k1 + 1 + 1, k6 + 1, O.box [.d (.v (.int .i64 (z1))), .d (.v (.int .i64 (z2)))])) e7 e8
  exact fin0 (.inr rfl) (.cell (cells := [.d (.v (.int .i64 ((Iv.meetOk a b).lo))), .d (.v (.int .i64 ((Iv.meetOk a b).hi)))]) rfl hc9 t25 rfl rfl (.one (svB (show (false) = (Iv.meets a b) by first | (rw [Iv.meets_no c0]) | (rw [Iv.meets_yes c0]) | (unfold Iv.meetOk; rw [Iv.meets_no c0]; rfl) | (unfold Iv.meetOk; rw [Iv.meets_yes c0]; rfl))) .nil)) (.dd (.dd (.dd .nil))) rfl
 ·have c0 := (oF (oF (nF id) (nF id)) (nF id)) c0
  refine .skip <| .seq <| .rs fun k11 => .lda t25 rfl (.ptr _ _ _ _ _ rfl) rfl <| .g (fun _ τ => ⟨_, .store (.no rfl) rfl t25 rfl rfl rfl rfl rfl rfl rfl rfl rfl τ⟩) <| .as rfl <| .z <| .ret ?_
  have e12 : (max a.lo b.lo) = ((Iv.meetOk a b).lo) := by first | (rw [Iv.meets_no c0]) | (rw [Iv.meets_yes c0]) | (unfold Iv.meetOk; rw [Iv.meets_no c0]; rfl) | (unfold Iv.meetOk; rw [Iv.meets_yes c0]; rfl)
  have e13 : (min a.hi b.hi) = ((Iv.meetOk a b).hi) := by first | (rw [Iv.meets_no c0]) | (rw [Iv.meets_yes c0]) | (unfold Iv.meetOk; rw [Iv.meets_no c0]; rfl) | (unfold Iv.meetOk; rw [Iv.meets_yes c0]; rfl)
  have hc14 := eq2 (fun z1 z2 => some (k1 + 1 + 1, k11 + 1, O.box [.d (.v (.int .i64 (z1))), .d (.v (.int .i64 (z2)))])) e12 e13
  exact fin0 (.inr rfl) (.cell (cells := [.d (.v (.int .i64 ((Iv.meetOk a b).lo))), .d (.v (.int .i64 ((Iv.meetOk a b).hi)))]) rfl hc14 t25 rfl rfl (.one (svB (show (true) = (Iv.meets a b) by first | (rw [Iv.meets_no c0]) | (rw [Iv.meets_yes c0]) | (unfold Iv.meetOk; rw [Iv.meets_no c0]; rfl) | (unfold Iv.meetOk; rw [Iv.meets_yes c0]; rfl))) .nil)) (.dd (.dd (.dd .nil))) rfl
theorem c_IvMeet (a : Iv) (b : Iv) : Trip Tryd.prog 28 [(true, 2), (true, 2)] (Iv.c a ++ Iv.c b) [(true, 2), (false, 1)] [.v (.int .i64 ((Iv.meetOk a b).lo)), .v (.int .i64 ((Iv.meetOk a b).hi)), .v (.bool (Iv.meets a b))] [] := by
 refine Trip.of Tryd.func28 (by decide) (c := _) rfl rfl (Nat.le_of_ble_eq_true rfl) rfl (AftOk.nil _) <| .seq <| .rs fun k1 => .g (fun _ τ => ⟨_, .box (.no rfl) rfl rfl rfl rfl rfl τ⟩) <| .g (fun _ τ => ⟨_, .box (.no rfl) rfl rfl rfl rfl rfl τ⟩) <| .g (fun _ τ => ⟨_, .alloc (.no rfl) rfl z25 rfl rfl rfl τ⟩) <| .as rfl <| .z <| .seq ?_
 refine .rs fun k2 => .fp t25 t2 rfl <| .ld t2 rfl (.ptr _ _ _ _ _ rfl) rfl <| .fp t25 t2 rfl <| .ld t2 rfl (.ptr _ _ _ _ _ rfl) rfl <| .g (fun _ τ => ⟨_, .max (.no rfl) rfl rfl rfl rfl (max_of _ _) rfl τ⟩) <| .fp t25 t2 rfl <| .ld t2 rfl (.ptr _ _ _ _ _ rfl) rfl <| .fp t25 t2 rfl ?_
 refine .ld t2 rfl (.ptr _ _ _ _ _ rfl) rfl <| .g (fun _ τ => ⟨_, .min (.no rfl) rfl rfl rfl rfl (min_of _ _) rfl τ⟩) <| .g (fun _ τ => ⟨_, .build (.no rfl) rfl z25 rfl p25 rfl rfl rfl rfl τ⟩) <| .g (fun _ τ => ⟨_, .alloc (.no rfl) rfl z25 rfl rfl rfl τ⟩) <| .g (fun _ τ => ⟨_, .store (.no rfl) rfl t25 rfl rfl rfl rfl rfl rfl rfl rfl rfl τ⟩) <| .z <| .seq <| .seq ?_
 refine .reg (X := Unit) (fun ζ => .of [(4, .one (.ptr [4] (k1 + 1 + 1) 0)), (6, .one (.ptr [6] (k2 + 1 + 1 + 1 + 1 + 1 + 1 + 1 + 1 + 1 + 1 + 1) 0)), (26, .one (.d (.v (.bool ((!(Iv.ok a && Iv.ok b) || !(Iv.ok (Iv.mk (max a.lo b.lo) (min a.hi b.hi)))))))))] [([4], (k1 + 1 + 1, k1 + 1 + 1, .box [.d (.v (.int .i64 (0))), .d (.v (.int .i64 (0)))])), ([6], (k2 + 1 + 1 + 1 + 1 + 1 + 1 + 1 + 1 + 1 + 1 + 1, k2 + 1 + 1 + 1 + 1 + 1 + 1 + 1 + 1 + 1 + 1 + 1 + 1, .box [.d (.v (.int .i64 (max a.lo b.lo))), .d (.v (.int .i64 (min a.hi b.hi)))]))]) [⟨[2], some 18, [[2]], []⟩, ⟨[3], some 19, [[3]], []⟩, ⟨[18, 19], some 20, [], []⟩, ⟨[20], some 21, [], []⟩, ⟨[21], some 22, [], []⟩, ⟨[22, 6], some 23, [[6]], []⟩, ⟨[22, 23], some 24, [], []⟩, ⟨[22, 24], some 25, [], []⟩, ⟨[22, 25], some 26, [], []⟩] (fun k3 => ?_) ?_
 ·skip
  refine .load (.no rfl) rfl t25 rfl rfl (.ptr _ _ _ _ _ rfl) rfl rfl rfl rfl <| .load (.no rfl) rfl t25 rfl rfl (.ptr _ _ _ _ _ rfl) rfl rfl rfl rfl <| .call (.no rfl) rfl [] [] (c_areIvs a b) rfl rfl rfl rfl rfl (.dd (.dd (.dd (.dd .nil)))) rfl rfl (fun h => absurd rfl h) (.own [20, 0] .nil) (.nil) rfl rfl rfl (by simp) rfl rfl rfl <| .un (.no rfl) rfl rfl rfl rfl rfl <| .moveB (.no rfl) rfl rfl rfl rfl fun b4 g2_4 => ?_
  cases b4
  ·skip
   refine .load (.on rfl rfl rfl rfl rfl) rfl t25 rfl rfl (.ptr _ _ _ _ _ rfl) rfl rfl rfl rfl <| .call (.on rfl rfl rfl rfl rfl) rfl [] [] (c_IvOk (Iv.mk (max a.lo b.lo) (min a.hi b.hi))) rfl rfl rfl rfl rfl (.dd (.dd .nil)) rfl rfl (fun h => absurd rfl h) (.own [24, 0] .nil) (.nil) rfl rfl rfl (by simp) rfl rfl rfl <| .un (.on rfl rfl rfl rfl rfl) rfl rfl rfl rfl rfl <| .pick (.no rfl) rfl rfl rfl rfl rfl ?_
   exact .fin () (.of (.cons rfl (.cons rfl (.cons (svB (show (!(Iv.ok (Iv.mk (max a.lo b.lo) (min a.hi b.hi)))) = ((!(Iv.ok a && Iv.ok b) || !(Iv.ok (Iv.mk (max a.lo b.lo) (min a.hi b.hi))))) by first | (simp only [g2_4, Bool.true_or, Bool.false_or, Bool.true_and, Bool.false_and, Bool.not_true, Bool.not_false]; done) | (simp [g2_4]; done) | (exfalso; simp_all; done))) .nil))) (.r rfl))
  ·skip
   refine .off rfl rfl rfl rfl rfl rfl rfl <| .off rfl rfl rfl rfl rfl rfl rfl <| .off rfl rfl rfl rfl rfl rfl rfl <| .pick (.no rfl) rfl rfl rfl rfl rfl ?_
   exact .fin () (.of (.cons rfl (.cons rfl (.cons (svB (show (true) = ((!(Iv.ok a && Iv.ok b) || !(Iv.ok (Iv.mk (max a.lo b.lo) (min a.hi b.hi))))) by first | (simp only [g2_4, Bool.true_or, Bool.false_or, Bool.true_and, Bool.false_and, Bool.not_true, Bool.not_false]; done) | (simp [g2_4]; done) | (exfalso; simp_all; done))) .nil))) (.r rfl))
 intro _
 refine .cond (t := (!(Iv.ok a && Iv.ok b) || !(Iv.ok (Iv.mk (max a.lo b.lo) (min a.hi b.hi))))) rfl (fun c0 => ?_) (fun c0 => ?_)
 ·have c0 := (oT (nT (aF id id)) (nT id)) c0
  refine .seq <| .rs fun k5 => .g (fun _ τ => ⟨_, .build (.no rfl) rfl z25 rfl p25 rfl rfl rfl rfl τ⟩) <| .g (fun _ τ => ⟨_, .store (.no rfl) rfl t25 rfl rfl rfl rfl rfl rfl rfl rfl rfl τ⟩) <| .as rfl <| .z <| .ret ?_
  have e6 : (0) = ((Iv.meetOk a b).lo) := by first | (rw [Iv.meets_no c0]) | (rw [Iv.meets_yes c0]) | (unfold Iv.meetOk; rw [Iv.meets_no c0]; rfl) | (unfold Iv.meetOk; rw [Iv.meets_yes c0]; rfl)
  have e7 : (0) = ((Iv.meetOk a b).hi) := by first | (rw [Iv.meets_no c0]) | (rw [Iv.meets_yes c0]) | (unfold Iv.meetOk; rw [Iv.meets_no c0]; rfl) | (unfold Iv.meetOk; rw [Iv.meets_yes c0]; rfl)
  have hc8 := eq2 (fun z1 z2 => some (k1 + 1 + 1, k5 + 1, O.box [.d (.v (.int .i64 (z1))), .d (.v (.int .i64 (z2)))])) e6 e7
  exact fin0 (.inr rfl) (.cell (cells := [.d (.v (.int .i64 ((Iv.meetOk a b).lo))), .d (.v (.int .i64 ((Iv.meetOk a b).hi)))]) rfl hc8 t25 rfl rfl (.one (svB (show (false) = (Iv.meets a b) by first | (rw [Iv.meets_no c0]) | (rw [Iv.meets_yes c0]) | (unfold Iv.meetOk; rw [Iv.meets_no c0]; rfl) | (unfold Iv.meetOk; rw [Iv.meets_yes c0]; rfl))) .nil)) (.dd (.dd (.dd .nil))) rfl
 ·have c0 := (oF (nF (aT id id)) (nF id)) c0
  refine .skip <| .seq <| .rs fun k10 => .lda t25 rfl (.ptr _ _ _ _ _ rfl) rfl <| .g (fun _ τ => ⟨_, .store (.no rfl) rfl t25 rfl rfl rfl rfl rfl rfl rfl rfl rfl τ⟩) <| .as rfl <| .z <| .ret ?_
  have e11 : (max a.lo b.lo) = ((Iv.meetOk a b).lo) := by first | (rw [Iv.meets_no c0]) | (rw [Iv.meets_yes c0]) | (unfold Iv.meetOk; rw [Iv.meets_no c0]; rfl) | (unfold Iv.meetOk; rw [Iv.meets_yes c0]; rfl)
  have e12 : (min a.hi b.hi) = ((Iv.meetOk a b).hi) := by first | (rw [Iv.meets_no c0]) | (rw [Iv.meets_yes c0]) | (unfold Iv.meetOk; rw [Iv.meets_no c0]; rfl) | (unfold Iv.meetOk; rw [Iv.meets_yes c0]; rfl)
  have hc13 := eq2 (fun z1 z2 => some (k1 + 1 + 1, k10 + 1, O.box [.d (.v (.int .i64 (z1))), .d (.v (.int .i64 (z2)))])) e11 e12
  exact fin0 (.inr rfl) (.cell (cells := [.d (.v (.int .i64 ((Iv.meetOk a b).lo))), .d (.v (.int .i64 ((Iv.meetOk a b).hi)))]) rfl hc13 t25 rfl rfl (.one (svB (show (true) = (Iv.meets a b) by first | (rw [Iv.meets_no c0]) | (rw [Iv.meets_yes c0]) | (unfold Iv.meetOk; rw [Iv.meets_no c0]; rfl) | (unfold Iv.meetOk; rw [Iv.meets_yes c0]; rfl))) .nil)) (.dd (.dd (.dd .nil))) rfl
theorem c_IvLeq (a : Iv) (b : Iv) : Trip Tryd.prog 15 [(true, 2), (true, 2)] (Iv.c a ++ Iv.c b) [(false, 1)] [.v (.bool (Iv.leq a b))] [] := by
 refine Trip.of Tryd.func15 (by decide) (c := _) rfl rfl (Nat.le_of_ble_eq_true rfl) rfl (AftOk.nil _) <| .seq <| .rs fun k1 => .g (fun _ τ => ⟨_, .box (.no rfl) rfl rfl rfl rfl rfl τ⟩) <| .g (fun _ τ => ⟨_, .box (.no rfl) rfl rfl rfl rfl rfl τ⟩) <| .as rfl <| .z <| .seq ?_
 refine .reg (X := Unit) (fun ζ => .of [(4, .one (.d (.v (.bool (((Iv.ok a && Iv.ok b && decide (b.lo ≤ a.lo)) && decide (a.hi ≤ b.hi)))))))] []) [⟨[2], some 5, [[2]], []⟩, ⟨[3], some 6, [[3]], []⟩, ⟨[5, 6], some 7, [], []⟩, ⟨[7], some 8, [], []⟩, ⟨[8, 3], some 9, [], []⟩, ⟨[8, 9], some 10, [[3]], []⟩, ⟨[8, 2], some 11, [], []⟩, ⟨[8, 11], some 12, [[2]], []⟩, ⟨[8, 10, 12], some 13, [], []⟩, ⟨[8, 13], some 14, [], []⟩, ⟨[14], some 15, [], []⟩, ⟨[15, 2], some 16, [], []⟩, ⟨[15, 16], some 17, [[2]], []⟩, ⟨[15, 3], some 18, [], []⟩, ⟨[15, 18], some 19, [[3]], []⟩, ⟨[15, 17, 19], some 20, [], []⟩, ⟨[15, 20], some 21, [], []⟩, ⟨[21], some 4, [], []⟩] (fun k2 => ?_) ?_
 ·skip
  refine .load (.no rfl) rfl t25 rfl rfl (.ptr _ _ _ _ _ rfl) rfl rfl rfl rfl <| .load (.no rfl) rfl t25 rfl rfl (.ptr _ _ _ _ _ rfl) rfl rfl rfl rfl <| .call (.no rfl) rfl [] [] (c_areIvs a b) rfl rfl rfl rfl rfl (.dd (.dd (.dd (.dd .nil)))) rfl rfl (fun h => absurd rfl h) (.own [7, 0] .nil) (.nil) rfl rfl rfl (by simp) rfl rfl rfl <| .moveB (.no rfl) rfl rfl rfl rfl fun b3 g1_3 => ?_
  cases b3
  ·skip
   refine .off rfl rfl rfl rfl rfl rfl rfl <| .off rfl rfl rfl rfl rfl rfl rfl <| .off rfl rfl rfl rfl rfl rfl rfl <| .off rfl rfl rfl rfl rfl rfl rfl <| .off rfl rfl rfl rfl rfl rfl rfl <| .pick (.no rfl) rfl rfl rfl rfl rfl <| .move (.no rfl) rfl rfl rfl rfl <| .off rfl rfl rfl rfl rfl rfl rfl <| .off rfl rfl rfl rfl rfl rfl rfl ?_
   refine .off rfl rfl rfl rfl rfl rfl rfl <| .off rfl rfl rfl rfl rfl rfl rfl <| .off rfl rfl rfl rfl rfl rfl rfl <| .pick (.no rfl) rfl rfl rfl rfl rfl <| .assign (.no rfl) rfl rfl rfl rfl ?_
   exact .fin () (.of (.cons (svB (show (false) = (((Iv.ok a && Iv.ok b && decide (b.lo ≤ a.lo)) && decide (a.hi ≤ b.hi))) by first | (simp only [g1_3, Bool.true_or, Bool.false_or, Bool.true_and, Bool.false_and, Bool.not_true, Bool.not_false]; done) | (simp [g1_3]; done) | (exfalso; simp_all; done))) .nil) .nil)
  ·skip
   refine .fieldAddrP (.on rfl rfl rfl rfl rfl) rfl t25 rfl rfl t2 rfl rfl rfl rfl <| .load (.on rfl rfl rfl rfl rfl) rfl t2 rfl rfl (.ptr _ _ _ _ _ rfl) rfl rfl rfl rfl <| .fieldAddrP (.on rfl rfl rfl rfl rfl) rfl t25 rfl rfl t2 rfl rfl rfl rfl <| .load (.on rfl rfl rfl rfl rfl) rfl t2 rfl rfl (.ptr _ _ _ _ _ rfl) rfl rfl rfl rfl <| .bin (.on rfl rfl rfl rfl rfl) rfl rfl rfl rfl rfl rfl <| .pick (.no rfl) rfl rfl rfl rfl rfl <| .moveB (.no rfl) rfl rfl rfl rfl fun b4 g1_10 => ?_
   cases b4
   ·skip
    refine .off rfl rfl rfl rfl rfl rfl rfl <| .off rfl rfl rfl rfl rfl rfl rfl <| .off rfl rfl rfl rfl rfl rfl rfl <| .off rfl rfl rfl rfl rfl rfl rfl <| .off rfl rfl rfl rfl rfl rfl rfl <| .pick (.no rfl) rfl rfl rfl rfl rfl <| .assign (.no rfl) rfl rfl rfl rfl ?_
    exact .fin () (.of (.cons (svB (show (false) = (((Iv.ok a && Iv.ok b && decide (b.lo ≤ a.lo)) && decide (a.hi ≤ b.hi))) by first | (simp only [g1_3, g1_10, Bool.true_or, Bool.false_or, Bool.true_and, Bool.false_and, Bool.not_true, Bool.not_false]; done) | (simp [g1_3, g1_10]; done) | (exfalso; simp_all; done))) .nil) .nil)
   ·skip
    refine .fieldAddrP (.on rfl rfl rfl rfl rfl) rfl t25 rfl rfl t2 rfl rfl rfl rfl <| .load (.on rfl rfl rfl rfl rfl) rfl t2 rfl rfl (.ptr _ _ _ _ _ rfl) rfl rfl rfl rfl <| .fieldAddrP (.on rfl rfl rfl rfl rfl) rfl t25 rfl rfl t2 rfl rfl rfl rfl <| .load (.on rfl rfl rfl rfl rfl) rfl t2 rfl rfl (.ptr _ _ _ _ _ rfl) rfl rfl rfl rfl <| .bin (.on rfl rfl rfl rfl rfl) rfl rfl rfl rfl rfl rfl <| .pick (.no rfl) rfl rfl rfl rfl rfl <| .assign (.no rfl) rfl rfl rfl rfl ?_
    exact .fin () (.of (.cons (svB (show (decide (a.hi ≤ b.hi)) = (((Iv.ok a && Iv.ok b && decide (b.lo ≤ a.lo)) && decide (a.hi ≤ b.hi))) by first | (simp only [g1_3, g1_10, Bool.true_or, Bool.false_or, Bool.true_and, Bool.false_and, Bool.not_true, Bool.not_false]; done) | (simp [g1_3, g1_10]; done) | (exfalso; simp_all; done))) .nil) .nil)
 intro _
 refine .ret ?_
 exact fin0 (.inr rfl) (.one (svB (show (((Iv.ok a && Iv.ok b && decide (b.lo ≤ a.lo)) && decide (a.hi ≤ b.hi))) = (Iv.leq a b) by rfl)) .nil) (.dd .nil) rfl
end Go.Proofs

namespace Go.Proofs
open Go Go.Proofs Go.Ev

theorem c_sizeA (l : List Arr) : Trip Tryd.prog 86 [(false, 1)] ([.sl false 78 2 (List.map Arr.c (l))]) [(false, 1)] [.v (.int .i64 ((l.length : Int)))] [] := by
 refine Trip.of Tryd.func86 (by decide) (c := _) rfl rfl (Nat.le_of_ble_eq_true rfl) rfl (AftOk.nil _) <| .sl (t := 0) rfl fun hs1l => .seq <| .rs fun k2 => .as rfl <| .z <| .seq <| .rs fun k3 => .mv rfl ?_
 refine .g (fun _ τ => ⟨_, .len (.no rfl) rfl (z := (l.length : Int)) t34 rfl rfl rfl (.d _ _) (map_len _ _) rfl τ⟩) <| .as rfl <| .z <| .ret ?_
 exact fin0 (.inr rfl) (.one rfl .nil) (.dd .nil) rfl
end Go.Proofs

namespace Go.Proofs
open Go Go.Proofs Go.Ev

def i64c (x : Int) : List D := [.v (.int .i64 x)]
theorem i64c_e (x : Int) : (i64c x).map D.erase = i64c x := by simp [i64c, D.erase_v]
theorem i64c_o (x : Int) : ∀ d ∈ i64c x, Owned d := by simp [i64c, Owned.v]
def boolc (x : Bool) : List D := [.v (.bool x)]
theorem boolc_e (x : Bool) : (boolc x).map D.erase = boolc x := by simp [boolc, D.erase_v]
theorem boolc_o (x : Bool) : ∀ d ∈ boolc x, Owned d := by simp [boolc, Owned.v]
def slc42 (x : List Int) : List D := [.sl false 2 1 (List.map i64c (x))]
theorem slc42_e (x : List Int) : (slc42 x).map D.erase = slc42 x := by simp [slc42, erase_slo _ _ _ _ _ _ i64c_e]
def slco42 (x : List Int) : List D := [.sl true 2 1 (List.map i64c (x))]
theorem slco42_e (x : List Int) : (slco42 x).map D.erase = slc42 x := by simp [slco42, slc42, erase_slo _ _ _ _ _ _ i64c_e]
theorem slco42_o (x : List Int) : ∀ d ∈ slco42 x, Owned d := by simp [slco42, Owned.map _ _ _ _ i64c_o]
def Store.c46 (x : Store) : List D := [.sl false 2 1 (List.map i64c (x.ints)), .sl false 4 1 (List.map boolc (x.flags)), .sl false 42 1 (List.map slc42 (x.arrs))]
theorem Store.c46_e (x : Store) : (Store.c46 x).map D.erase = Store.c46 x := by simp [Store.c46, D.erase_v, erase_slo _ _ _ _ _ _ i64c_e, erase_slo _ _ _ _ _ _ boolc_e, erase_slo _ _ _ _ _ _ slc42_e]
def Store.co46 (x : Store) : List D := [.sl true 2 1 (List.map i64c (x.ints)), .sl true 4 1 (List.map boolc (x.flags)), .sl true 42 1 (List.map slco42 (x.arrs))]
theorem Store.co46_e (x : Store) : (Store.co46 x).map D.erase = Store.c46 x := by simp [Store.co46, Store.c46, D.erase_v, erase_slo _ _ _ _ _ _ i64c_e, erase_slo _ _ _ _ _ _ boolc_e, erase_slo _ _ _ _ _ _ slco42_e]
theorem Store.co46_o (x : Store) : ∀ d ∈ Store.co46 x, Owned d := by simp [Store.co46, Owned.v, Owned.map _ _ _ _ i64c_o, Owned.map _ _ _ _ boolc_o, Owned.map _ _ _ _ slco42_o]
def i42 : TI := ⟨.sl 2, 1, 24, [.slice none 0 0]⟩
theorem t42 : TyOk Tryd.prog 42 i42 := ⟨Tryd.underlying42, by kernel_rfl⟩
theorem z42 : ZOk Tryd.prog 42 i42 := ⟨t42, rfl⟩
def i43 : TI := ⟨.sl 4, 1, 24, [.slice none 0 0]⟩
theorem t43 : TyOk Tryd.prog 43 i43 := ⟨Tryd.underlying43, by kernel_rfl⟩
theorem z43 : ZOk Tryd.prog 43 i43 := ⟨t43, rfl⟩
def i44 : TI := ⟨.sl 42, 1, 24, [.slice none 0 0]⟩
theorem t44 : TyOk Tryd.prog 44 i44 := ⟨Tryd.underlying44, by kernel_rfl⟩
theorem z44 : ZOk Tryd.prog 44 i44 := ⟨t44, rfl⟩
def i46 : TI := ⟨.st [(0, 42), (1, 43), (2, 44)], 3, 72, [.slice none 0 0, .slice none 0 0, .slice none 0 0]⟩
theorem t46 : TyOk Tryd.prog 46 i46 := ⟨⟨_, Tryd.underlying46, rfl⟩, by kernel_rfl⟩
theorem z46 : ZOk Tryd.prog 46 i46 := ⟨t46, rfl⟩
theorem p46 : Places Tryd.prog [(0, 42), (1, 43), (2, 44)] [(0, 1), (1, 1), (2, 1)] := by unfold Places; kernel_rfl
theorem c_sizeN (l : List Int) : Trip Tryd.prog 79 [(false, 1)] ([.sl false 2 1 (List.map i64c (l))]) [(false, 1)] [.v (.int .i64 ((l.length : Int)))] [] := by
 refine Trip.of Tryd.func79 (by decide) (c := _) rfl rfl (Nat.le_of_ble_eq_true rfl) rfl (AftOk.nil _) <| .sl (t := 0) rfl fun hs1l => .seq <| .rs fun k2 => .as rfl <| .z <| .seq <| .rs fun k3 => .mv rfl ?_
 refine .g (fun _ τ => ⟨_, .len (.no rfl) rfl (z := (l.length : Int)) t42 rfl rfl rfl (.d _ _) (map_len _ _) rfl τ⟩) <| .as rfl <| .z <| .ret ?_
 exact fin0 (.inr rfl) (.one rfl .nil) (.dd .nil) rfl
theorem c_isStore (d : Decl) (s : Store) : Trip Tryd.prog 51 [(true, 3), (true, 3)] (Decl.c36 d ++ Store.c46 s) [(false, 1)] [.v (.bool (Store.okIn d s))] [] := by
 refine Trip.of Tryd.func51 (by decide) (c := _) rfl rfl (Nat.le_of_ble_eq_true rfl) rfl (AftOk.nil _) <| .sla (t := 0) 0 rfl rfl fun hs1l => .sla (t := 0) 1 rfl rfl fun hs2l => .sla (t := 0) 2 rfl rfl fun hs3l => .sla (t := 1) 0 rfl rfl fun hs4l => .sla (t := 1) 1 rfl rfl fun hs5l => .sla (t := 1) 2 rfl rfl fun hs6l => .seq <| .rs fun k7 => ?_
 refine .g (fun _ τ => ⟨_, .box (.no rfl) rfl rfl rfl rfl rfl τ⟩) <| .g (fun _ τ => ⟨_, .box (.no rfl) rfl rfl rfl rfl rfl τ⟩) <| .as rfl <| .z <| .seq <| .seq ?_
 refine .reg (X := Unit) (fun ζ => .of [(2, .one (.ptr [2] (k7) 0)), (3, .one (.ptr [3] (k7 + 1) 0)), (31, .one (.d (.v (.bool ((((s.ints.length : Int) != (d.vars.length : Int) || (s.flags.length : Int) != (d.flags.length : Int)) || (s.arrs.length : Int) != (d.arrays.length : Int)))))))] [([2], (k7, k7, .box [.d (.sl false 9 1 (List.map strc (d.vars))), .d (.sl false 9 1 (List.map strc (d.flags))), .d (.sl false 78 2 (List.map Arr.c (d.arrays)))])), ([3], (k7 + 1, k7 + 1, .box [.d (.sl false 2 1 (List.map i64c (s.ints))), .d (.sl false 4 1 (List.map boolc (s.flags))), .d (.sl false 42 1 (List.map slc42 (s.arrs)))]))]) [⟨[3], some 7, [], []⟩, ⟨[7], some 8, [[3]], []⟩, ⟨[8], some 9, [], []⟩, ⟨[2], some 10, [], []⟩, ⟨[10], some 11, [[2]], []⟩, ⟨[11], some 12, [], []⟩, ⟨[9, 12], some 13, [], []⟩, ⟨[13], some 14, [], []⟩, ⟨[14, 3], some 15, [], []⟩, ⟨[14, 15], some 16, [[3]], []⟩, ⟨[14, 16], some 17, [], []⟩, ⟨[14, 2], some 18, [], []⟩, ⟨[14, 18], some 19, [[2]], []⟩, ⟨[14, 19], some 20, [], []⟩, ⟨[14, 17, 20], some 21, [], []⟩, ⟨[14, 21], some 22, [], []⟩, ⟨[22], some 23, [], []⟩, ⟨[23, 3], some 24, [], []⟩, ⟨[23, 24], some 25, [[3]], []⟩, ⟨[23, 25], some 26, [], []⟩, ⟨[23, 2], some 27, [], []⟩, ⟨[23, 27], some 28, [[2]], []⟩, ⟨[23, 28], some 29, [], []⟩, ⟨[23, 26, 29], some 30, [], []⟩, ⟨[23, 30], some 31, [], []⟩] (fun k8 => ?_) ?_
 ·skip
  refine .fieldAddrP (.no rfl) rfl t46 rfl rfl t42 rfl rfl rfl rfl <| .load (.no rfl) rfl t42 rfl rfl (.ptr _ _ _ _ _ rfl) rfl rfl rfl rfl <| .len (.no rfl) rfl (z := (s.ints.length : Int)) t42 rfl rfl rfl (.d _ _) (map_len _ _) rfl <| .fieldAddrP (.no rfl) rfl t36 rfl rfl t33 rfl rfl rfl rfl <| .load (.no rfl) rfl t33 rfl rfl (.ptr _ _ _ _ _ rfl) rfl rfl rfl rfl <| .len (.no rfl) rfl (z := (d.vars.length : Int)) t33 rfl rfl rfl (.d _ _) (map_len _ _) rfl <| .bin (.no rfl) rfl rfl rfl rfl rfl rfl <| .moveB (.no rfl) rfl rfl rfl rfl fun b9 g1_7 => ?_
  cases b9
  ·skip
   refine .fieldAddrP (.on rfl rfl rfl rfl rfl) rfl t46 rfl rfl t43 rfl rfl rfl rfl <| .load (.on rfl rfl rfl rfl rfl) rfl t43 rfl rfl (.ptr _ _ _ _ _ rfl) rfl rfl rfl rfl <| .len (.on rfl rfl rfl rfl rfl) rfl (z := (s.flags.length : Int)) t43 rfl rfl rfl (.d _ _) (map_len _ _) rfl <| .fieldAddrP (.on rfl rfl rfl rfl rfl) rfl t36 rfl rfl t33 rfl rfl rfl rfl <| .load (.on rfl rfl rfl rfl rfl) rfl t33 rfl rfl (.ptr _ _ _ _ _ rfl) rfl rfl rfl rfl <| .len (.on rfl rfl rfl rfl rfl) rfl (z := (d.flags.length : Int)) t33 rfl rfl rfl (.d _ _) (map_len _ _) rfl <| .bin (.on rfl rfl rfl rfl rfl) rfl rfl rfl rfl rfl rfl <| .pick (.no rfl) rfl rfl rfl rfl rfl <| .moveB (.no rfl) rfl rfl rfl rfl fun b10 g1_16 => ?_
   cases b10
   ·skip
    refine .fieldAddrP (.on rfl rfl rfl rfl rfl) rfl t46 rfl rfl t44 rfl rfl rfl rfl <| .load (.on rfl rfl rfl rfl rfl) rfl t44 rfl rfl (.ptr _ _ _ _ _ rfl) rfl rfl rfl rfl <| .len (.on rfl rfl rfl rfl rfl) rfl (z := (s.arrs.length : Int)) t44 rfl rfl rfl (.d _ _) (map_len _ _) rfl <| .fieldAddrP (.on rfl rfl rfl rfl rfl) rfl t36 rfl rfl t34 rfl rfl rfl rfl <| .load (.on rfl rfl rfl rfl rfl) rfl t34 rfl rfl (.ptr _ _ _ _ _ rfl) rfl rfl rfl rfl <| .len (.on rfl rfl rfl rfl rfl) rfl (z := (d.arrays.length : Int)) t34 rfl rfl rfl (.d _ _) (map_len _ _) rfl <| .bin (.on rfl rfl rfl rfl rfl) rfl rfl rfl rfl rfl rfl <| .pick (.no rfl) rfl rfl rfl rfl rfl ?_
    exact .fin () (.of (.cons rfl (.cons rfl (.cons (svB (show ((s.arrs.length : Int) != (d.arrays.length : Int)) = ((((s.ints.length : Int) != (d.vars.length : Int) || (s.flags.length : Int) != (d.flags.length : Int)) || (s.arrs.length : Int) != (d.arrays.length : Int))) by first | (simp only [g1_7, g1_16, Bool.true_or, Bool.false_or, Bool.true_and, Bool.false_and, Bool.not_true, Bool.not_false]; done) | (simp [g1_7, g1_16]; done) | (exfalso; simp_all; done))) .nil))) (.r rfl))
   ·skip
    refine .off rfl rfl rfl rfl rfl rfl rfl <| .off rfl rfl rfl rfl rfl rfl rfl <| .off rfl rfl rfl rfl rfl rfl rfl <| .off rfl rfl rfl rfl rfl rfl rfl <| .off rfl rfl rfl rfl rfl rfl rfl <| .off rfl rfl rfl rfl rfl rfl rfl <| .off rfl rfl rfl rfl rfl rfl rfl <| .pick (.no rfl) rfl rfl rfl rfl rfl ?_
    exact .fin () (.of (.cons rfl (.cons rfl (.cons (svB (show (true) = ((((s.ints.length : Int) != (d.vars.length : Int) || (s.flags.length : Int) != (d.flags.length : Int)) || (s.arrs.length : Int) != (d.arrays.length : Int))) by first | (simp only [g1_7, g1_16, Bool.true_or, Bool.false_or, Bool.true_and, Bool.false_and, Bool.not_true, Bool.not_false]; done) | (simp [g1_7, g1_16]; done) | (exfalso; simp_all; done))) .nil))) (.r rfl))
  ·skip
   refine .off rfl rfl rfl rfl rfl rfl rfl <| .off rfl rfl rfl rfl rfl rfl rfl <| .off rfl rfl rfl rfl rfl rfl rfl <| .off rfl rfl rfl rfl rfl rfl rfl <| .off rfl rfl rfl rfl rfl rfl rfl <| .off rfl rfl rfl rfl rfl rfl rfl <| .off rfl rfl rfl rfl rfl rfl rfl <| .pick (.no rfl) rfl rfl rfl rfl rfl <| .move (.no rfl) rfl rfl rfl rfl ?_
   refine .off rfl rfl rfl rfl rfl rfl rfl <| .off rfl rfl rfl rfl rfl rfl rfl <| .off rfl rfl rfl rfl rfl rfl rfl <| .off rfl rfl rfl rfl rfl rfl rfl <| .off rfl rfl rfl rfl rfl rfl rfl <| .off rfl rfl rfl rfl rfl rfl rfl <| .off rfl rfl rfl rfl rfl rfl rfl <| .pick (.no rfl) rfl rfl rfl rfl rfl ?_
   exact .fin () (.of (.cons rfl (.cons rfl (.cons (svB (show (true) = ((((s.ints.length : Int) != (d.vars.length : Int) || (s.flags.length : Int) != (d.flags.length : Int)) || (s.arrs.length : Int) != (d.arrays.length : Int))) by first | (simp only [g1_7, Bool.true_or, Bool.false_or, Bool.true_and, Bool.false_and, Bool.not_true, Bool.not_false]; done) | (simp [g1_7]; done) | (exfalso; simp_all; done))) .nil))) (.r rfl))
 intro _
 refine .cond (t := (((s.ints.length : Int) != (d.vars.length : Int) || (s.flags.length : Int) != (d.flags.length : Int)) || (s.arrs.length : Int) != (d.arrays.length : Int))) rfl (fun c0 => ?_) (fun c0 => ?_)
 ·have c0 := (oT (oT bT bT) bT) c0
  refine .seq <| .rs fun k11 => .as rfl <| .z <| .ret ?_
  exact fin0 (.inr rfl) (.one (svB (show (false) = (Store.okIn d s) by (rw [Store.okIn_no c0]))) .nil) (.dd .nil) rfl
 ·have c0 := (oF (oF bF bF) bF) c0
  refine .skip <| .seq <| .seq <| .rs fun k13 => .fp t36 t34 rfl <| .ld t34 rfl (.ptr _ _ _ _ _ rfl) rfl <| .g (fun _ τ => ⟨_, .len (.no rfl) rfl (z := (d.arrays.length : Int)) t34 rfl rfl rfl (.d _ _) (map_len _ _) rfl τ⟩) <| .mv rfl <| .z ?_
  refine .block ?_
  refine .loop (X := Nat) (fun ζ => .of [(3, .one (.ptr [3] (k7 + 1) 0)), (33, .one (.d (.sl false 78 2 (List.map Arr.c (d.arrays))))), (34, .one (.d (.v (.int .i64 ((d.arrays.length : Int)))))), (35, .one (.d (.v (.int .i64 ((ζ : Int))))))] [([3], (k7 + 1, k7 + 1, .box [.d (.sl false 2 1 (List.map i64c (s.ints))), .d (.sl false 4 1 (List.map boolc (s.flags))), .d (.sl false 42 1 (List.map slc42 (s.arrs)))]))]) (fun ζ => ζ ≤ d.arrays.length ∧ allTo ζ (fun i => ((s.arrs.getD i default).length : Int) == (d.arrays.getD i default).size) = true) (fun ζ => d.arrays.length - ζ) ?_ ?_
  ·skip
   exact .here 0 (.of (.cons rfl (.cons rfl (.cons rfl (.cons (svI (show (0) = ((0 : Int)) by first | rfl | omega | exact wrap_le (by omega) (by omega) | (rw [wrap_le (by omega) (by omega)]; omega))) .nil)))) (.r rfl)) (show 0 ≤ d.arrays.length ∧ allTo 0 (fun i => ((s.arrs.getD i default).length : Int) == (d.arrays.getD i default).size) = true by exact ⟨by omega, rfl⟩)
  ·rintro j hI
   have hI : j ≤ d.arrays.length ∧ allTo j (fun i => ((s.arrs.getD i default).length : Int) == (d.arrays.getD i default).size) = true := hI
   have hn9 : d.arrays.length = s.arrs.length := (by omega)
   refine .seq <| .rs fun k14 => .bi rfl <| .z <| .seq ?_
   refine .cond (t := decide ((j : Int) < (d.arrays.length : Int))) rfl (fun c1 => ?_) (fun c1 => ?_)
   ·have c1 := of_decide_eq_true c1
    refine .skip <| .seq <| .block <| .seq <| .rs fun k15 => .mv rfl <| .g (fun _ τ => ⟨_, .indexAddr (.no rfl) rfl (j) t34 rfl t78 rfl rfl rfl (.d _ _) rfl rfl rfl (map_get (by omega)) rfl rfl τ⟩) <| .lda t78 rfl (.d _) rfl <| .g (fun _ τ => ⟨_, .alloc (.no rfl) rfl z78 rfl rfl rfl τ⟩) ?_
    refine .as rfl <| .g (fun _ τ => ⟨_, .store (.no rfl) rfl t78 rfl rfl rfl rfl rfl rfl rfl rfl rfl τ⟩) <| .z <| .seq ?_
    refine .regD (X := Unit) (by kernel_rfl) (fun ζ => .of [(3, .one (.ptr [3] (k7 + 1) 0)), (33, .one (.d (.sl false 78 2 (List.map Arr.c (d.arrays))))), (34, .one (.d (.v (.int .i64 ((d.arrays.length : Int)))))), (35, .one (.d (.v (.int .i64 ((j : Int)))))), (48, .one (.d (.v (.bool (((s.arrs.getD j default).length : Int) != ((d.arrays.getD j default).size))))))] [([3], (k7 + 1, k7 + 1, .box [.d (.sl false 2 1 (List.map i64c (s.ints))), .d (.sl false 4 1 (List.map boolc (s.flags))), .d (.sl false 42 1 (List.map slc42 (s.arrs)))]))]) [⟨[3], some 40, [], []⟩, ⟨[40], some 41, [[3]], []⟩, ⟨[5], some 42, [], []⟩, ⟨[41, 42], some 43, [], []⟩, ⟨[43], some 44, [], []⟩, ⟨[44], some 45, [], []⟩, ⟨[6], some 46, [], []⟩, ⟨[46], some 47, [[6]], []⟩, ⟨[45, 47], some 48, [], []⟩] (by kernel_rfl) (fun k16 => ?_) ?_
    ·skip
     refine .fieldAddrP (.no rfl) rfl t46 rfl rfl t44 rfl rfl rfl rfl <| .load (.no rfl) rfl t44 rfl rfl (.ptr _ _ _ _ _ rfl) rfl rfl rfl rfl <| .move (.no rfl) rfl rfl rfl rfl <| .indexAddr (.no rfl) rfl (j) t44 rfl t42 rfl rfl rfl (.d _ _) rfl rfl rfl (map_get (by omega)) rfl rfl <| .load (.no rfl) rfl t42 rfl rfl (.d _) rfl rfl rfl rfl <| .call (.no rfl) rfl [] [] (c_sizeN (s.arrs.getD j default)) rfl rfl rfl rfl rfl (.dd .nil) rfl rfl (fun h => absurd rfl h) (.own [45, 0] .nil) (.nil) rfl rfl rfl (by simp) rfl rfl rfl <| .fieldAddrP (.no rfl) rfl t78 rfl rfl t2 rfl rfl rfl rfl <| .load (.no rfl) rfl t2 rfl rfl (.ptr _ _ _ _ _ rfl) rfl rfl rfl rfl <| .bin (.no rfl) rfl rfl rfl rfl rfl rfl ?_
     exact .fin () (.of (.r rfl) (.r rfl))
    intro _
    refine .cond (t := ((s.arrs.getD j default).length : Int) != ((d.arrays.getD j default).size)) rfl (fun c2 => ?_) (fun c2 => ?_)
    ·have c2 := (by simpa using c2 : ¬ (((s.arrs.getD j default).length : Int) = ((d.arrays.getD j default).size)))
     refine .seq <| .rs fun k17 => .as rfl <| .z <| .ret ?_
     exact fin0 (.inr rfl) (.one (svB (show (false) = (Store.okIn d s) by (rw [Store.okIn_fail (j := j) (by omega) c2]))) .nil) (.dd .nil) rfl
    ·have c2 := (by simpa using c2 : ((s.arrs.getD j default).length : Int) = ((d.arrays.getD j default).size))
     refine .skip <| .rs fun k19 => .bi rfl <| .mv rfl <| .z ?_
     exact .here (j + 1) (.of (.cons rfl (.cons rfl (.cons rfl (.cons (svI (show (IntKind.wrap .i64 ((j : Int) + 1)) = (((j + 1) : Int)) by first | rfl | omega | exact wrap_le (by omega) (by omega) | (rw [wrap_le (by omega) (by omega)]; omega))) .nil)))) (.r rfl)) ⟨(show (j + 1) ≤ d.arrays.length ∧ allTo (j + 1) (fun i => ((s.arrs.getD i default).length : Int) == (d.arrays.getD i default).size) = true by exact ⟨by omega, allTo_step hI.2 (by simpa using c2)⟩), (show d.arrays.length - (j + 1) < d.arrays.length - j by omega)⟩
   ·have c1 := of_decide_eq_false c1
    refine .exit <| .seq <| .rs fun k20 => .as rfl <| .z <| .ret ?_
    exact fin0 (.inr rfl) (.one (svB (show (true) = (Store.okIn d s) by (rw [Store.okIn_done (j := j) (by omega) (by omega) hI.2]))) .nil) (.dd .nil) rfl
end Go.Proofs

namespace Go.Proofs
open Go Go.Proofs Go.Ev

theorem c_has (a : Iv) (n : Int) : Trip Tryd.prog 40 [(true, 2), (false, 1)] (Iv.c a ++ [.v (.int .i64 (n))]) [(false, 1)] [.v (.bool (Iv.has a n))] [] := by
 refine Trip.of Tryd.func40 (by decide) (c := _) rfl rfl (Nat.le_of_ble_eq_true rfl) rfl (AftOk.nil _) <| .seq <| .rs fun k1 => .g (fun _ τ => ⟨_, .box (.no rfl) rfl rfl rfl rfl rfl τ⟩) <| .as rfl <| .z <| .seq <| .rs fun k2 => .mv rfl ?_
 refine .fp t25 t2 rfl <| .ld t2 rfl (.ptr _ _ _ _ _ rfl) rfl <| .fp t25 t2 rfl <| .ld t2 rfl (.ptr _ _ _ _ _ rfl) rfl <| .c0 (c_within n a.lo a.hi) rfl (.dd (.dd (.dd .nil))) (.own [10, 0] .nil) rfl <| .as rfl <| .z <| .ret ?_
 exact fin0 (.inr rfl) (.one (svB (show (inR n a.lo a.hi) = (Iv.has a n) by rfl)) .nil) (.dd .nil) rfl
theorem c_IvHas (a : Iv) (n : Int) : Trip Tryd.prog 14 [(true, 2), (false, 1)] (Iv.c a ++ [.v (.int .i64 (n))]) [(false, 1)] [.v (.bool (Iv.has a n))] [] := by
 refine Trip.of Tryd.func14 (by decide) (c := _) rfl rfl (Nat.le_of_ble_eq_true rfl) rfl (AftOk.nil _) <| .seq <| .rs fun k1 => .g (fun _ τ => ⟨_, .box (.no rfl) rfl rfl rfl rfl rfl τ⟩) <| .as rfl <| .z <| .seq <| .rs fun k2 => .lda t25 rfl (.ptr _ _ _ _ _ rfl) rfl ?_
 refine .mv rfl <| .c0 (c_has a n) rfl (.dd (.dd (.dd .nil))) (.own [7, 0] .nil) rfl <| .as rfl <| .z <| .ret ?_
 exact fin0 (.inr rfl) (.one rfl .nil) (.dd .nil) rfl
end Go.Proofs

namespace Go.Proofs
open Go Go.Proofs Go.Ev

theorem c_l5One (b : Bool) : Trip Tryd.prog 35 [(false, 1)] ([.v (.bool (b))]) [(false, 1)] [.v (.int .i64 (truthN b))] [] := by
 refine Trip.of Tryd.func35 (by decide) (c := _) rfl rfl (Nat.le_of_ble_eq_true rfl) rfl (AftOk.nil _) <| .seq <| .rs fun k1 => .as rfl <| .z <| .seq <| .seq <| .rs fun k2 => .mv rfl ?_
 refine .z ?_
 refine .cond (t := b) rfl (fun c0 => ?_) (fun c0 => ?_)
 ·have c0 := c0
  refine .seq <| .rs fun k3 => .as rfl <| .z <| .ret ?_
  exact fin0 (.inr rfl) (.one (svI (show (1) = (truthN b) by (rw [c0]; rfl))) .nil) (.dd .nil) rfl
 ·have c0 := c0
  refine .skip <| .seq <| .rs fun k5 => .as rfl <| .z <| .ret ?_
  exact fin0 (.inr rfl) (.one (svI (show (0) = (truthN b) by (rw [c0]; rfl))) .nil) (.dd .nil) rfl
theorem c_truth (b : Bool) : Trip Tryd.prog 87 [(false, 1)] ([.v (.bool (b))]) [(false, 1)] [.v (.int .i64 (truthN b))] [] := by
 refine Trip.of Tryd.func87 (by decide) (c := _) rfl rfl (Nat.le_of_ble_eq_true rfl) rfl (AftOk.nil _) <| .seq <| .rs fun k1 => .as rfl <| .z <| .seq <| .seq <| .rs fun k2 => .mv rfl ?_
 refine .z ?_
 refine .cond (t := b) rfl (fun c0 => ?_) (fun c0 => ?_)
 ·have c0 := c0
  refine .seq <| .rs fun k3 => .as rfl <| .z <| .ret ?_
  exact fin0 (.inr rfl) (.one (svI (show (1) = (truthN b) by (rw [c0]; rfl))) .nil) (.dd .nil) rfl
 ·have c0 := c0
  refine .skip <| .seq <| .rs fun k5 => .as rfl <| .z <| .ret ?_
  exact fin0 (.inr rfl) (.one (svI (show (0) = (truthN b) by (rw [c0]; rfl))) .nil) (.dd .nil) rfl
end Go.Proofs

namespace Go.Proofs
open Go Go.Proofs Go.Ev

def Tok.c (x : Tok) : List D := [.v (.int .i64 (x.op)), .v (.int .i64 (x.n))]
theorem Tok.c_o (x : Tok) : ∀ d ∈ Tok.c x, Owned d := by simp [Tok.c, Owned.v]
theorem Tok.c_e (x : Tok) : (Tok.c x).map D.erase = Tok.c x := by simp [Tok.c, D.erase_v]
def i40 : TI := ⟨.st [(0, 2), (1, 2)], 2, 16, [.int .i64 0, .int .i64 0]⟩
theorem t40 : TyOk Tryd.prog 40 i40 := ⟨⟨_, Tryd.underlying40, rfl⟩, by kernel_rfl⟩
theorem z40 : ZOk Tryd.prog 40 i40 := ⟨t40, rfl⟩
theorem p40 : Places Tryd.prog [(0, 2), (1, 2)] [(0, 1), (1, 1)] := by unfold Places; kernel_rfl
def i41 : TI := ⟨.sl 40, 1, 24, [.slice none 0 0]⟩
theorem t41 : TyOk Tryd.prog 41 i41 := ⟨Tryd.underlying41, by kernel_rfl⟩
theorem z41 : ZOk Tryd.prog 41 i41 := ⟨t41, rfl⟩
def i89 : TI := ⟨.fn, 1, 8, [.nilFunc]⟩
theorem t89 : TyOk Tryd.prog 89 i89 := ⟨⟨_, _, _, Tryd.underlying89⟩, by kernel_rfl⟩
theorem z89 : ZOk Tryd.prog 89 i89 := ⟨t89, rfl⟩
theorem c_takes (op : Int) : Trip Tryd.prog 63 [(false, 1)] ([.v (.int .i64 (op))]) [(false, 1)] [.sl false 2 1 (List.map i64c (takesL op))] [] := by
 refine Trip.of Tryd.func63 (by decide) (c := _) rfl rfl (Nat.le_of_ble_eq_true rfl) rfl (AftOk.nil _) <| .seq <| .rs fun k1 => .as rfl <| .z <| .seq <| .block <| .seq ?_
 refine .reg (X := Unit) (fun ζ => .of [(0, .one (.d (.v (.int .i64 (op))))), (3, .one (.d (.v (.bool ((op == 6 || op == 7))))))] []) [⟨[0], some 4, [], []⟩, ⟨[4], some 5, [], []⟩, ⟨[5], some 6, [], []⟩, ⟨[6, 0], some 7, [], []⟩, ⟨[6, 7], some 8, [], []⟩, ⟨[6, 8], some 9, [], []⟩, ⟨[9], some 3, [], []⟩] (fun k2 => ?_) ?_
 ·skip
  refine .move (.no rfl) rfl rfl rfl rfl <| .bin (.no rfl) rfl rfl rfl rfl rfl rfl <| .moveB (.no rfl) rfl rfl rfl rfl fun b3 g1_2 => ?_
  cases b3
  ·skip
   refine .move (.on rfl rfl rfl rfl rfl) rfl rfl rfl rfl <| .bin (.on rfl rfl rfl rfl rfl) rfl rfl rfl rfl rfl rfl <| .pick (.no rfl) rfl rfl rfl rfl rfl <| .assign (.no rfl) rfl rfl rfl rfl ?_
   exact .fin () (.of (.cons rfl (.cons (svB (show (op == 7) = ((op == 6 || op == 7)) by first | (simp only [g1_2, Bool.true_or, Bool.false_or, Bool.true_and, Bool.false_and, Bool.not_true, Bool.not_false]; done) | (simp [g1_2]; done) | (exfalso; simp_all; done))) .nil)) .nil)
  ·skip
   refine .off rfl rfl rfl rfl rfl rfl rfl <| .off rfl rfl rfl rfl rfl rfl rfl <| .pick (.no rfl) rfl rfl rfl rfl rfl <| .assign (.no rfl) rfl rfl rfl rfl ?_
   exact .fin () (.of (.cons rfl (.cons (svB (show (true) = ((op == 6 || op == 7)) by first | (simp only [g1_2, Bool.true_or, Bool.false_or, Bool.true_and, Bool.false_and, Bool.not_true, Bool.not_false]; done) | (simp [g1_2]; done) | (exfalso; simp_all; done))) .nil)) .nil)
 intro _
 refine .cond (t := (op == 6 || op == 7)) rfl (fun c0 => ?_) (fun c0 => ?_)
 ·have c0 := (oT eT eT) c0
  refine .seq <| .rs fun k4 => .g (fun _ τ => ⟨_, .buildSlice (.no rfl) rfl (els := [[.v (.int .i64 (1))]]) t42 rfl z2 rfl rfl rfl rfl rfl rfl rfl rfl (by simp [i2]) (.cons _ _ _ _ _ _ (.d _) .nil) rfl rfl rfl τ⟩) <| .as rfl <| .z <| .ret ?_
  exact fin1 (.inr rfl) [[10]] [([10], (k4, k4, .row 2 1 ([[.v (.int .i64 (1))]])))] (.one rfl .nil) (.cons (Gives.castE (f := i64c) (L := [1]) (L' := takesL op) (by (unfold takesL; rw [if_pos c0])) (Reads.ref (Frz.of_erase (erase_slo true 2 1 i64c i64c ([1]) i64c_e)) (.head _) (.head _)).gives) .nil) rfl rfl (.r rfl)
 ·have c0 := (oF eF eF) c0
  refine .seq <| .rs fun k5 => .mv rfl <| .c0 (c_within op 8 18) rfl (.dd (.dd (.dd .nil))) (.own [13, 0] .nil) rfl <| .as rfl <| .z ?_
  refine .cond (t := inR op 8 18) rfl (fun c1 => ?_) (fun c1 => ?_)
  ·have c1 := c1
   refine .seq <| .rs fun k6 => .g (fun _ τ => ⟨_, .buildSlice (.no rfl) rfl (els := [[.v (.int .i64 (1))], [.v (.int .i64 (1))]]) t42 rfl z2 rfl rfl rfl rfl rfl rfl rfl rfl (by simp [i2]) (.cons _ _ _ _ _ _ (.d _) (.cons _ _ _ _ _ _ (.d _) .nil)) rfl rfl rfl τ⟩) <| .as rfl <| .z <| .ret ?_
   exact fin1 (.inr rfl) [[14]] [([14], (k6, k6, .row 2 1 ([[.v (.int .i64 (1))], [.v (.int .i64 (1))]])))] (.one rfl .nil) (.cons (Gives.castE (f := i64c) (L := [1, 1]) (L' := takesL op) (by (unfold takesL; rw [if_neg (by omega), if_pos c1])) (Reads.ref (Frz.of_erase (erase_slo true 2 1 i64c i64c ([1, 1]) i64c_e)) (.head _) (.head _)).gives) .nil) rfl rfl (.r rfl)
  ·have c1 := c1
   refine .seq <| .rs fun k7 => .mv rfl <| .bi rfl <| .as rfl <| .z ?_
   refine .cond (t := op == 19) rfl (fun c2 => ?_) (fun c2 => ?_)
   ·have c2 := (by simpa using c2 : op = 19)
    refine .seq <| .rs fun k8 => .g (fun _ τ => ⟨_, .buildSlice (.no rfl) rfl (els := [[.v (.int .i64 (2))]]) t42 rfl z2 rfl rfl rfl rfl rfl rfl rfl rfl (by simp [i2]) (.cons _ _ _ _ _ _ (.d _) .nil) rfl rfl rfl τ⟩) <| .as rfl <| .z <| .ret ?_
    exact fin1 (.inr rfl) [[18]] [([18], (k8, k8, .row 2 1 ([[.v (.int .i64 (2))]])))] (.one rfl .nil) (.cons (Gives.castE (f := i64c) (L := [2]) (L' := takesL op) (by (unfold takesL; rw [if_neg (by omega), if_neg (by rw [c1]; decide), if_pos c2])) (Reads.ref (Frz.of_erase (erase_slo true 2 1 i64c i64c ([2]) i64c_e)) (.head _) (.head _)).gives) .nil) rfl rfl (.r rfl)
   ·have c2 := (by simpa using c2 : ¬ (op = 19))
    refine .seq ?_
    refine .reg (X := Unit) (fun ζ => .of [(19, .one (.d (.v (.bool ((op == 20 || op == 21))))))] []) [⟨[0], some 20, [], []⟩, ⟨[20], some 21, [], []⟩, ⟨[21], some 22, [], []⟩, ⟨[22, 0], some 23, [], []⟩, ⟨[22, 23], some 24, [], []⟩, ⟨[22, 24], some 25, [], []⟩, ⟨[25], some 19, [], []⟩] (fun k9 => ?_) ?_
    ·skip
     refine .move (.no rfl) rfl rfl rfl rfl <| .bin (.no rfl) rfl rfl rfl rfl rfl rfl <| .moveB (.no rfl) rfl rfl rfl rfl fun b10 g7_2 => ?_
     cases b10
     ·skip
      refine .move (.on rfl rfl rfl rfl rfl) rfl rfl rfl rfl <| .bin (.on rfl rfl rfl rfl rfl) rfl rfl rfl rfl rfl rfl <| .pick (.no rfl) rfl rfl rfl rfl rfl <| .assign (.no rfl) rfl rfl rfl rfl ?_
      exact .fin () (.of (.cons (svB (show (op == 21) = ((op == 20 || op == 21)) by first | (simp only [g7_2, Bool.true_or, Bool.false_or, Bool.true_and, Bool.false_and, Bool.not_true, Bool.not_false]; done) | (simp [g7_2]; done) | (exfalso; simp_all; done))) .nil) .nil)
     ·skip
      refine .off rfl rfl rfl rfl rfl rfl rfl <| .off rfl rfl rfl rfl rfl rfl rfl <| .pick (.no rfl) rfl rfl rfl rfl rfl <| .assign (.no rfl) rfl rfl rfl rfl ?_
      exact .fin () (.of (.cons (svB (show (true) = ((op == 20 || op == 21)) by first | (simp only [g7_2, Bool.true_or, Bool.false_or, Bool.true_and, Bool.false_and, Bool.not_true, Bool.not_false]; done) | (simp [g7_2]; done) | (exfalso; simp_all; done))) .nil) .nil)
    intro _
    refine .cond (t := (op == 20 || op == 21)) rfl (fun c3 => ?_) (fun c3 => ?_)
    ·have c3 := (oT eT eT) c3
     refine .seq <| .rs fun k11 => .g (fun _ τ => ⟨_, .buildSlice (.no rfl) rfl (els := [[.v (.int .i64 (2))], [.v (.int .i64 (2))]]) t42 rfl z2 rfl rfl rfl rfl rfl rfl rfl rfl (by simp [i2]) (.cons _ _ _ _ _ _ (.d _) (.cons _ _ _ _ _ _ (.d _) .nil)) rfl rfl rfl τ⟩) <| .as rfl <| .z <| .ret ?_
     exact fin1 (.inr rfl) [[26]] [([26], (k11, k11, .row 2 1 ([[.v (.int .i64 (2))], [.v (.int .i64 (2))]])))] (.one rfl .nil) (.cons (Gives.castE (f := i64c) (L := [2, 2]) (L' := takesL op) (by (unfold takesL; rw [if_neg (by omega), if_neg (by rw [c1]; decide), if_neg c2, if_pos c3])) (Reads.ref (Frz.of_erase (erase_slo true 2 1 i64c i64c ([2, 2]) i64c_e)) (.head _) (.head _)).gives) .nil) rfl rfl (.r rfl)
    ·have c3 := (oF eF eF) c3
     refine .skip <| .seq <| .rs fun k12 => .as rfl <| .z <| .ret ?_
     exact fin0 (.inr rfl) (.one rfl .nil) (.cons (Gives.nil' (by (unfold takesL; rw [if_neg (by omega), if_neg (by rw [c1]; decide), if_neg c2, if_neg (by omega)]; rfl))) .nil) rfl
theorem c_leaves1 (op : Int) : Trip Tryd.prog 65 [(false, 1)] ([.v (.int .i64 (op))]) [(false, 1)] [.v (.int .i64 (leavesK op))] [] := by
 refine Trip.of Tryd.func65 (by decide) (c := _) rfl rfl (Nat.le_of_ble_eq_true rfl) rfl (AftOk.nil _) <| .seq <| .rs fun k1 => .as rfl <| .z <| .seq <| .seq ?_
 refine .reg (X := Unit) (fun ζ => .of [(8, .one (.d (.v (.bool ((inR op 3 5 || decide (op ≥ 13)))))))] []) [⟨[0], some 3, [], []⟩, ⟨[3], some 4, [], []⟩, ⟨[4], some 5, [], []⟩, ⟨[5, 0], some 6, [], []⟩, ⟨[5, 6], some 7, [], []⟩, ⟨[5, 7], some 8, [], []⟩] (fun k2 => ?_) ?_
 ·skip
  refine .move (.no rfl) rfl rfl rfl rfl <| .call (.no rfl) rfl [] [] (c_within op 3 5) rfl rfl rfl rfl rfl (.dd (.dd (.dd .nil))) rfl rfl (fun h => absurd rfl h) (.own [4, 0] .nil) (.nil) rfl rfl rfl (by simp) rfl rfl rfl <| .moveB (.no rfl) rfl rfl rfl rfl fun b3 g1_2 => ?_
  cases b3
  ·skip
   refine .move (.on rfl rfl rfl rfl rfl) rfl rfl rfl rfl <| .bin (.on rfl rfl rfl rfl rfl) rfl rfl rfl rfl rfl rfl <| .pick (.no rfl) rfl rfl rfl rfl rfl ?_
   exact .fin () (.of (.cons (svB (show (decide (op ≥ 13)) = ((inR op 3 5 || decide (op ≥ 13))) by first | (simp only [g1_2, Bool.true_or, Bool.false_or, Bool.true_and, Bool.false_and, Bool.not_true, Bool.not_false]; done) | (simp [g1_2]; done) | (exfalso; simp_all; done))) .nil) .nil)
  ·skip
   refine .off rfl rfl rfl rfl rfl rfl rfl <| .off rfl rfl rfl rfl rfl rfl rfl <| .pick (.no rfl) rfl rfl rfl rfl rfl ?_
   exact .fin () (.of (.cons (svB (show (true) = ((inR op 3 5 || decide (op ≥ 13))) by first | (simp only [g1_2, Bool.true_or, Bool.false_or, Bool.true_and, Bool.false_and, Bool.not_true, Bool.not_false]; done) | (simp [g1_2]; done) | (exfalso; simp_all; done))) .nil) .nil)
 intro _
 refine .cond (t := (inR op 3 5 || decide (op ≥ 13))) rfl (fun c0 => ?_) (fun c0 => ?_)
 ·have c0 := (oT id dT) c0
  refine .seq <| .rs fun k4 => .as rfl <| .z <| .ret ?_
  exact fin0 (.inr rfl) (.one (svI (show (2) = (leavesK op) by (unfold leavesK; rw [if_pos c0]))) .nil) (.dd .nil) rfl
 ·have c0 := (oF id dF) c0
  refine .skip <| .seq <| .rs fun k6 => .as rfl <| .z <| .ret ?_
  exact fin0 (.inr rfl) (.one (svI (show (1) = (leavesK op) by (unfold leavesK; rw [if_neg (by rcases c0 with ⟨h1, h2⟩; rw [h1]; simp; omega)]))) .nil) (.dd .nil) rfl
theorem c_isTok (d : Decl) (t : Tok) : Trip Tryd.prog 62 [(true, 3), (true, 2)] (Decl.c36 d ++ Tok.c t) [(false, 1)] [.v (.bool (Tok.ok d t))] [] := by
 refine Trip.of Tryd.func62 (by decide) (c := _) rfl rfl (Nat.le_of_ble_eq_true rfl) rfl (AftOk.nil _) <| .sla (t := 0) 0 rfl rfl fun hs1l => .sla (t := 0) 1 rfl rfl fun hs2l => .sla (t := 0) 2 rfl rfl fun hs3l => .seq <| .rs fun k4 => .g (fun _ τ => ⟨_, .box (.no rfl) rfl rfl rfl rfl rfl τ⟩) <| .g (fun _ τ => ⟨_, .box (.no rfl) rfl rfl rfl rfl rfl τ⟩) <| .as rfl ?_
 refine .z <| .seq <| .seq <| .rs fun k5 => .fp t40 t2 rfl <| .ld t2 rfl (.ptr _ _ _ _ _ rfl) rfl <| .z <| .block <| .seq ?_
 refine .rs fun k6 => .bi rfl <| .as rfl <| .z ?_
 refine .cond (t := t.op == 1) rfl (fun c0 => ?_) (fun c0 => ?_)
 ·have c0 := (by simpa using c0 : t.op = 1)
  refine .seq <| .rs fun k7 => .fp t40 t2 rfl <| .ld t2 rfl (.ptr _ _ _ _ _ rfl) rfl <| .c0 (c_within t.n 0 999999999999999999) rfl (.dd (.dd (.dd .nil))) (.own [11, 0] .nil) rfl <| .as rfl <| .z <| .ret ?_
  exact fin0 (.inr rfl) (.one (svB (show (inR t.n 0 999999999999999999) = (Tok.ok d t) by (unfold Tok.ok; rw [if_pos c0]))) .nil) (.dd .nil) rfl
 ·have c0 := (by simpa using c0 : ¬ (t.op = 1))
  refine .seq <| .rs fun k9 => .bi rfl <| .as rfl <| .z ?_
  refine .cond (t := t.op == 2) rfl (fun c1 => ?_) (fun c1 => ?_)
  ·have c1 := (by simpa using c1 : t.op = 2)
   refine .seq ?_
   refine .regD (X := Unit) (by kernel_rfl) (fun ζ => .of [(4, .one (.d (.v (.bool (inR t.n 0 ((d.vars.length : Int) - 1))))))] []) [⟨[3], some 14, [], []⟩, ⟨[14], some 15, [[3]], []⟩, ⟨[2], some 16, [], []⟩, ⟨[16], some 17, [[2]], []⟩, ⟨[17], some 18, [], []⟩, ⟨[18], some 19, [], []⟩, ⟨[15, 19], some 20, [], []⟩, ⟨[20], some 4, [], []⟩] (by kernel_rfl) (fun k10 => ?_) ?_
   ·skip
    refine .fieldAddrP (.no rfl) rfl t40 rfl rfl t2 rfl rfl rfl rfl <| .load (.no rfl) rfl t2 rfl rfl (.ptr _ _ _ _ _ rfl) rfl rfl rfl rfl <| .fieldAddrP (.no rfl) rfl t36 rfl rfl t33 rfl rfl rfl rfl <| .load (.no rfl) rfl t33 rfl rfl (.ptr _ _ _ _ _ rfl) rfl rfl rfl rfl <| .call (.no rfl) rfl [] [] (c_sizeS d.vars) rfl rfl rfl rfl rfl (.dd .nil) rfl rfl (fun h => absurd rfl h) (.own [18, 0] .nil) (.nil) rfl rfl rfl (by simp) rfl rfl rfl <| .binN (.no rfl) rfl (show IntKind.wrap .i64 ((d.vars.length : Int) - 1) = (d.vars.length : Int) - 1 by (exact wrap_le (by omega) (by omega))) rfl rfl rfl rfl rfl <| .call (.no rfl) rfl [] [] (c_within t.n 0 ((d.vars.length : Int) - 1)) rfl rfl rfl rfl rfl (.dd (.dd (.dd .nil))) rfl rfl (fun h => absurd rfl h) (.own [20, 0] .nil) (.nil) rfl rfl rfl (by simp) rfl rfl rfl <| .assign (.no rfl) rfl rfl rfl rfl ?_
    exact .fin () (.of (.r rfl) .nil)
   intro _
   refine .ret ?_
   exact fin0 (.inr rfl) (.one (svB (show (inR t.n 0 ((d.vars.length : Int) - 1)) = (Tok.ok d t) by (unfold Tok.ok; rw [if_neg c0, if_pos c1]))) .nil) (.dd .nil) rfl
  ·have c1 := (by simpa using c1 : ¬ (t.op = 2))
   refine .seq <| .rs fun k12 => .bi rfl <| .as rfl <| .z ?_
   refine .cond (t := t.op == 3) rfl (fun c2 => ?_) (fun c2 => ?_)
   ·have c2 := (by simpa using c2 : t.op = 3)
    refine .seq ?_
    refine .regD (X := Unit) (by kernel_rfl) (fun ζ => .of [(4, .one (.d (.v (.bool (inR t.n 0 ((d.flags.length : Int) - 1))))))] []) [⟨[3], some 23, [], []⟩, ⟨[23], some 24, [[3]], []⟩, ⟨[2], some 25, [], []⟩, ⟨[25], some 26, [[2]], []⟩, ⟨[26], some 27, [], []⟩, ⟨[27], some 28, [], []⟩, ⟨[24, 28], some 29, [], []⟩, ⟨[29], some 4, [], []⟩] (by kernel_rfl) (fun k13 => ?_) ?_
    ·skip
     refine .fieldAddrP (.no rfl) rfl t40 rfl rfl t2 rfl rfl rfl rfl <| .load (.no rfl) rfl t2 rfl rfl (.ptr _ _ _ _ _ rfl) rfl rfl rfl rfl <| .fieldAddrP (.no rfl) rfl t36 rfl rfl t33 rfl rfl rfl rfl <| .load (.no rfl) rfl t33 rfl rfl (.ptr _ _ _ _ _ rfl) rfl rfl rfl rfl <| .call (.no rfl) rfl [] [] (c_sizeS d.flags) rfl rfl rfl rfl rfl (.dd .nil) rfl rfl (fun h => absurd rfl h) (.own [27, 0] .nil) (.nil) rfl rfl rfl (by simp) rfl rfl rfl <| .binN (.no rfl) rfl (show IntKind.wrap .i64 ((d.flags.length : Int) - 1) = (d.flags.length : Int) - 1 by (exact wrap_le (by omega) (by omega))) rfl rfl rfl rfl rfl <| .call (.no rfl) rfl [] [] (c_within t.n 0 ((d.flags.length : Int) - 1)) rfl rfl rfl rfl rfl (.dd (.dd (.dd .nil))) rfl rfl (fun h => absurd rfl h) (.own [29, 0] .nil) (.nil) rfl rfl rfl (by simp) rfl rfl rfl <| .assign (.no rfl) rfl rfl rfl rfl ?_
     exact .fin () (.of (.r rfl) .nil)
    intro _
    refine .ret ?_
    exact fin0 (.inr rfl) (.one (svB (show (inR t.n 0 ((d.flags.length : Int) - 1)) = (Tok.ok d t) by (unfold Tok.ok; rw [if_neg c0, if_neg c1, if_pos c2]))) .nil) (.dd .nil) rfl
   ·have c2 := (by simpa using c2 : ¬ (t.op = 3))
    refine .seq <| .rs fun k15 => .bi rfl <| .as rfl <| .z ?_
    refine .cond (t := t.op == 6) rfl (fun c3 => ?_) (fun c3 => ?_)
    ·have c3 := (by simpa using c3 : t.op = 6)
     refine .seq ?_
     refine .regD (X := Unit) (by kernel_rfl) (fun ζ => .of [(4, .one (.d (.v (.bool (inR t.n 0 ((d.arrays.length : Int) - 1))))))] []) [⟨[3], some 32, [], []⟩, ⟨[32], some 33, [[3]], []⟩, ⟨[2], some 34, [], []⟩, ⟨[34], some 35, [[2]], []⟩, ⟨[35], some 36, [], []⟩, ⟨[36], some 37, [], []⟩, ⟨[33, 37], some 38, [], []⟩, ⟨[38], some 4, [], []⟩] (by kernel_rfl) (fun k16 => ?_) ?_
     ·skip
      refine .fieldAddrP (.no rfl) rfl t40 rfl rfl t2 rfl rfl rfl rfl <| .load (.no rfl) rfl t2 rfl rfl (.ptr _ _ _ _ _ rfl) rfl rfl rfl rfl <| .fieldAddrP (.no rfl) rfl t36 rfl rfl t34 rfl rfl rfl rfl <| .load (.no rfl) rfl t34 rfl rfl (.ptr _ _ _ _ _ rfl) rfl rfl rfl rfl <| .call (.no rfl) rfl [] [] (c_sizeA d.arrays) rfl rfl rfl rfl rfl (.dd .nil) rfl rfl (fun h => absurd rfl h) (.own [36, 0] .nil) (.nil) rfl rfl rfl (by simp) rfl rfl rfl <| .binN (.no rfl) rfl (show IntKind.wrap .i64 ((d.arrays.length : Int) - 1) = (d.arrays.length : Int) - 1 by (exact wrap_le (by omega) (by omega))) rfl rfl rfl rfl rfl <| .call (.no rfl) rfl [] [] (c_within t.n 0 ((d.arrays.length : Int) - 1)) rfl rfl rfl rfl rfl (.dd (.dd (.dd .nil))) rfl rfl (fun h => absurd rfl h) (.own [38, 0] .nil) (.nil) rfl rfl rfl (by simp) rfl rfl rfl <| .assign (.no rfl) rfl rfl rfl rfl ?_
      exact .fin () (.of (.r rfl) .nil)
     intro _
     refine .ret ?_
     exact fin0 (.inr rfl) (.one (svB (show (inR t.n 0 ((d.arrays.length : Int) - 1)) = (Tok.ok d t) by (unfold Tok.ok; rw [if_neg c0, if_neg c1, if_neg c2, if_pos c3]))) .nil) (.dd .nil) rfl
    ·have c3 := (by simpa using c3 : ¬ (t.op = 6))
     refine .skip <| .seq ?_
     refine .reg (X := Unit) (fun ζ => .of [(4, .one (.d (.v (.bool ((inR t.op 4 21 && t.n == 0))))))] []) [⟨[3], some 39, [], []⟩, ⟨[39], some 40, [[3]], []⟩, ⟨[40], some 41, [], []⟩, ⟨[41], some 42, [], []⟩, ⟨[42, 3], some 43, [], []⟩, ⟨[42, 43], some 44, [[3]], []⟩, ⟨[42, 44], some 45, [], []⟩, ⟨[42, 45], some 46, [], []⟩, ⟨[46], some 4, [], []⟩] (fun k18 => ?_) ?_
     ·skip
      refine .fieldAddrP (.no rfl) rfl t40 rfl rfl t2 rfl rfl rfl rfl <| .load (.no rfl) rfl t2 rfl rfl (.ptr _ _ _ _ _ rfl) rfl rfl rfl rfl <| .call (.no rfl) rfl [] [] (c_within t.op 4 21) rfl rfl rfl rfl rfl (.dd (.dd (.dd .nil))) rfl rfl (fun h => absurd rfl h) (.own [41, 0] .nil) (.nil) rfl rfl rfl (by simp) rfl rfl rfl <| .moveB (.no rfl) rfl rfl rfl rfl fun b19 g10_3 => ?_
      cases b19
      ·skip
       refine .off rfl rfl rfl rfl rfl rfl rfl <| .off rfl rfl rfl rfl rfl rfl rfl <| .off rfl rfl rfl rfl rfl rfl rfl <| .pick (.no rfl) rfl rfl rfl rfl rfl <| .assign (.no rfl) rfl rfl rfl rfl ?_
       exact .fin () (.of (.cons (svB (show (false) = ((inR t.op 4 21 && t.n == 0)) by first | (simp only [g10_3, Bool.true_or, Bool.false_or, Bool.true_and, Bool.false_and, Bool.not_true, Bool.not_false]; done) | (simp [g10_3]; done) | (exfalso; simp_all; done))) .nil) .nil)
      ·skip
       refine .fieldAddrP (.on rfl rfl rfl rfl rfl) rfl t40 rfl rfl t2 rfl rfl rfl rfl <| .load (.on rfl rfl rfl rfl rfl) rfl t2 rfl rfl (.ptr _ _ _ _ _ rfl) rfl rfl rfl rfl <| .bin (.on rfl rfl rfl rfl rfl) rfl rfl rfl rfl rfl rfl <| .pick (.no rfl) rfl rfl rfl rfl rfl <| .assign (.no rfl) rfl rfl rfl rfl ?_
       exact .fin () (.of (.cons (svB (show (t.n == 0) = ((inR t.op 4 21 && t.n == 0)) by first | (simp only [g10_3, Bool.true_or, Bool.false_or, Bool.true_and, Bool.false_and, Bool.not_true, Bool.not_false]; done) | (simp [g10_3]; done) | (exfalso; simp_all; done))) .nil) .nil)
     intro _
     refine .ret ?_
     exact fin0 (.inr rfl) (.one (svB (show ((inR t.op 4 21 && t.n == 0)) = (Tok.ok d t) by (unfold Tok.ok; rw [if_neg c0, if_neg c1, if_neg c2, if_neg c3]))) .nil) (.dd .nil) rfl
theorem c_IndexFuncK (l : List Tok) (F_p : FuncId) (first_p : List (Bool × List D)) (caps_p : List D) (p : Tok → Bool) (h_p : ∀ (x0 : Tok), FnTrip Tryd.prog F_p first_p caps_p [(true, 2)] (Tok.c x0) [(false, 1)] [.v (.bool (p x0))]) : Trip Tryd.prog 108 [(false, 1), (false, 1)] ([.sl false 40 2 (List.map Tok.c (l))] ++ [.fn F_p first_p caps_p]) [(false, 1)] [.v (.int .i64 (idx p l))] [] := by
 refine Trip.of Tryd.func108 (by decide) (c := _) rfl rfl (Nat.le_of_ble_eq_true rfl) rfl (AftOk.nil _) <| .sl (t := 0) rfl fun hs1l => .seq <| .rs fun k2 => .as rfl <| .z <| .seq <| .seq <| .rs fun k3 => ?_
 refine .mv rfl <| .g (fun _ τ => ⟨_, .len (.no rfl) rfl (z := (l.length : Int)) t41 rfl rfl rfl (.d _ _) (map_len _ _) rfl τ⟩) <| .mv rfl <| .z <| .block ?_
 refine .loop (X := Nat) (fun ζ => .of [(0, .one (.d (.sl false 40 2 (List.map Tok.c (l))))), (1, .one (.d (.fn F_p first_p caps_p))), (7, .one (.d (.v (.int .i64 ((l.length : Int)))))), (8, .one (.d (.v (.int .i64 ((ζ : Int))))))] []) (fun ζ => ζ ≤ l.length ∧ allTo ζ (fun i => !p (l.getD i default)) = true) (fun ζ => l.length - ζ) ?_ ?_
 ·skip
  exact .here 0 (.of (.cons rfl (.cons rfl (.cons rfl (.cons (svI (show (0) = ((0 : Int)) by first | rfl | omega | exact wrap_le (by omega) (by omega) | (rw [wrap_le (by omega) (by omega)]; omega))) .nil)))) .nil) (show 0 ≤ l.length ∧ allTo 0 (fun i => !p (l.getD i default)) = true by exact ⟨by omega, rfl⟩)
 ·rintro j hI
  have hI : j ≤ l.length ∧ allTo j (fun i => !p (l.getD i default)) = true := hI
  refine .seq <| .rs fun k4 => .bi rfl <| .z <| .seq ?_
  refine .cond (t := decide ((j : Int) < (l.length : Int))) rfl (fun c0 => ?_) (fun c0 => ?_)
  ·have c0 := of_decide_eq_true c0
   refine .skip <| .seq <| .block <| .seq <| .rs fun k5 => .mv rfl <| .as rfl <| .z <| .seq ?_
   refine .rs fun k6 => .mv rfl <| .mv rfl <| .mv rfl <| .g (fun _ τ => ⟨_, .indexAddr (.no rfl) rfl (j) t41 rfl t40 rfl rfl rfl (.d _ _) rfl rfl rfl (map_get (by omega)) rfl rfl τ⟩) <| .lda t40 rfl (.d _) rfl <| .g (fun _ τ => ⟨_, .callF (.no rfl) rfl (ds := [.v (.int .i64 ((l.getD j default).op)), .v (.int .i64 ((l.getD j default).n))]) (h_p (l.getD j default)) rfl rfl rfl rfl (.own [16, 0] .nil) rfl rfl rfl rfl rfl rfl τ⟩) <| .z ?_
   refine .cond (t := p (l.getD j default)) rfl (fun c1 => ?_) (fun c1 => ?_)
   ·have c1 := c1
    refine .seq <| .rs fun k7 => .mv rfl <| .as rfl <| .z <| .ret ?_
    exact fin0 (.inr rfl) (.one (svI (show ((j : Int)) = (idx p l) by exact (idx_found (j := j) (by omega) hI.2 (by simpa using c1)).symm)) .nil) (.dd .nil) rfl
   ·have c1 := c1
    refine .skip <| .rs fun k9 => .bi rfl <| .mv rfl <| .z ?_
    exact .here (j + 1) (.of (.cons rfl (.cons rfl (.cons rfl (.cons (svI (show (IntKind.wrap .i64 ((j : Int) + 1)) = (((j + 1) : Int)) by first | rfl | omega | exact wrap_le (by omega) (by omega) | (rw [wrap_le (by omega) (by omega)]; omega))) .nil)))) .nil) ⟨(show (j + 1) ≤ l.length ∧ allTo (j + 1) (fun i => !p (l.getD i default)) = true by exact ⟨by omega, allTo_step hI.2 (by simpa using c1)⟩), (show l.length - (j + 1) < l.length - j by omega)⟩
  ·have c0 := of_decide_eq_false c0
   refine .exit <| .seq <| .rs fun k10 => .as rfl <| .z <| .ret ?_
   exact fin0 (.inr rfl) (.one (svI (show (-1) = (idx p l) by exact (idx_none (by omega) hI.2).symm)) .nil) (.dd .nil) rfl
theorem c_ContainsFuncK (l : List Tok) (F_p : FuncId) (first_p : List (Bool × List D)) (caps_p : List D) (p : Tok → Bool) (h_p : ∀ (x0 : Tok), FnTrip Tryd.prog F_p first_p caps_p [(true, 2)] (Tok.c x0) [(false, 1)] [.v (.bool (p x0))]) : Trip Tryd.prog 83 [(false, 1), (false, 1)] ([.sl false 40 2 (List.map Tok.c (l))] ++ [.fn F_p first_p caps_p]) [(false, 1)] [.v (.bool (l.any p))] [] := by
 refine Trip.of Tryd.func83 (by decide) (c := _) rfl rfl (Nat.le_of_ble_eq_true rfl) rfl (AftOk.nil _) <| .sl (t := 0) rfl fun hs1l => .seq <| .rs fun k2 => .as rfl <| .z <| .seq <| .rs fun k3 => .mv rfl ?_
 refine .mv rfl <| .c0 (c_IndexFuncK l F_p first_p caps_p p h_p) rfl (.dd (.dd .nil)) (.own [7, 0] .nil) rfl <| .bi rfl <| .as rfl <| .z <| .ret ?_
 exact fin0 (.inr rfl) (.one (svB (show (decide ((idx p l) ≥ 0)) = (l.any p) by exact idx_any _ _)) .nil) (.dd .nil) rfl
theorem c_areAll1K (x : Tok) (F_p : FuncId) (first_p : List (Bool × List D)) (caps_p : List D) (p : Tok → Bool) (h_p : ∀ (x0 : Tok), FnTrip Tryd.prog F_p first_p caps_p [(true, 2)] (Tok.c x0) [(false, 1)] [.v (.bool (p x0))]) : Trip Tryd.prog 84 [(true, 2), (false, 1)] (Tok.c x ++ [.pt false [.fn F_p first_p caps_p]]) [(false, 1)] [.v (.bool (!p x))] [] := by
 refine Trip.of Tryd.func84 (by decide) (c := _) rfl rfl (Nat.le_of_ble_eq_true rfl) rfl (AftOk.nil _) <| .seq <| .rs fun k1 => .g (fun _ τ => ⟨_, .box (.no rfl) rfl rfl rfl rfl rfl τ⟩) <| .as rfl <| .z <| .seq <| .rs fun k2 => .ld t89 rfl (.d _) rfl ?_
 refine .lda t40 rfl (.ptr _ _ _ _ _ rfl) rfl <| .g (fun _ τ => ⟨_, .callF (.no rfl) rfl (ds := [.v (.int .i64 (x.op)), .v (.int .i64 (x.n))]) (h_p x) rfl rfl rfl rfl (.own [6, 0] .nil) rfl rfl rfl rfl rfl rfl τ⟩) <| .un rfl <| .as rfl <| .z <| .ret ?_
 exact fin0 (.inr rfl) (.one (svB (show (!(p x)) = (!p x) by rfl)) .nil) (.dd .nil) rfl
theorem c_areAllK (l : List Tok) (F_p : FuncId) (first_p : List (Bool × List D)) (caps_p : List D) (p : Tok → Bool) (h_p : ∀ (x0 : Tok), FnTrip Tryd.prog F_p first_p caps_p [(true, 2)] (Tok.c x0) [(false, 1)] [.v (.bool (p x0))]) : Trip Tryd.prog 61 [(false, 1), (false, 1)] ([.sl false 40 2 (List.map Tok.c (l))] ++ [.fn F_p first_p caps_p]) [(false, 1)] [.v (.bool (l.all p))] [] := by
 refine Trip.of Tryd.func61 (by decide) (c := _) rfl rfl (Nat.le_of_ble_eq_true rfl) rfl (AftOk.nil _) <| .sl (t := 0) rfl fun hs1l => .seq <| .rs fun k2 => .g (fun _ τ => ⟨_, .box (.no rfl) rfl rfl rfl rfl rfl τ⟩) <| .as rfl <| .z <| .seq <| .rs fun k3 => ?_
 refine .mv rfl <| .g (fun _ τ => ⟨_, .makeFunc (.no rfl) rfl rfl rfl rfl rfl τ⟩) <| .g (fun _ τ => ⟨_, .call (.no rfl) rfl [[3]] [([3], (k2, k2, .box [.d (.fn F_p first_p caps_p)]))] (c_ContainsFuncK l 84 [] [.pt false [.fn F_p first_p caps_p]] (fun x0 => !p x0) (fun x0 => c_areAll1K x0 F_p first_p caps_p p h_p)) rfl rfl rfl rfl rfl (.dd (.cons (Reads.clo0 (.cons (Reads.ptr0 (.head _) (.head _) (.cons (Reads.d _) .nil)) .nil)).gives .nil)) rfl rfl (fun _ => (ownCons (Owned.v _) ownNil)) (.own [7, 0] .nil) (.nil) rfl rfl rfl (AllH.get (.r rfl)) rfl rfl rfl τ⟩) <| .un rfl <| .as rfl <| .z <| .ret ?_
 exact fin0 (.inr rfl) (.one (svB (show (!(l.any (fun x0 => !p x0))) = (l.all p) by exact not_any _ _)) .nil) (.dd .nil) rfl
theorem c_EqualN (a : List Int) (b : List Int) : Trip Tryd.prog 64 [(false, 1), (false, 1)] ([.sl false 2 1 (List.map i64c (a))] ++ [.sl false 2 1 (List.map i64c (b))]) [(false, 1)] [.v (.bool (all2 intEq a b))] [] := by
 refine Trip.of Tryd.func64 (by decide) (c := _) rfl rfl (Nat.le_of_ble_eq_true rfl) rfl (AftOk.nil _) <| .sl (t := 0) rfl fun hs1l => .sl (t := 1) rfl fun hs2l => .seq <| .rs fun k3 => .as rfl <| .z <| .seq <| .seq ?_
 refine .rs fun k4 => .mv rfl <| .g (fun _ τ => ⟨_, .len (.no rfl) rfl (z := (a.length : Int)) t42 rfl rfl rfl (.d _ _) (map_len _ _) rfl τ⟩) <| .mv rfl <| .g (fun _ τ => ⟨_, .len (.no rfl) rfl (z := (b.length : Int)) t42 rfl rfl rfl (.d _ _) (map_len _ _) rfl τ⟩) <| .bi rfl <| .z ?_
 refine .cond (t := (a.length : Int) != (b.length : Int)) rfl (fun c0 => ?_) (fun c0 => ?_)
 ·have c0 := (by simpa using c0 : ¬ ((a.length : Int) = (b.length : Int)))
  refine .seq <| .rs fun k5 => .as rfl <| .z <| .ret ?_
  exact fin0 (.inr rfl) (.one (svB (show (false) = (all2 intEq a b) by exact (all2_ne _ (by simpa using c0)).symm)) .nil) (.dd .nil) rfl
 ·have c0 := (by simpa using c0 : (a.length : Int) = (b.length : Int))
  refine .skip <| .seq <| .seq <| .rs fun k7 => .mv rfl <| .g (fun _ τ => ⟨_, .len (.no rfl) rfl (z := (a.length : Int)) t42 rfl rfl rfl (.d _ _) (map_len _ _) rfl τ⟩) <| .mv rfl <| .z <| .block ?_
  refine .loop (X := Nat) (fun ζ => .of [(0, .one (.d (.sl false 2 1 (List.map i64c (a))))), (1, .one (.d (.sl false 2 1 (List.map i64c (b))))), (12, .one (.d (.v (.int .i64 ((a.length : Int)))))), (13, .one (.d (.v (.int .i64 ((ζ : Int))))))] []) (fun ζ => ζ ≤ a.length ∧ a.length = b.length ∧ allTo ζ (fun i => intEq (a.getD i default) (b.getD i default)) = true) (fun ζ => a.length - ζ) ?_ ?_
  ·skip
   exact .here 0 (.of (.cons rfl (.cons rfl (.cons rfl (.cons (svI (show (0) = ((0 : Int)) by first | rfl | omega | exact wrap_le (by omega) (by omega) | (rw [wrap_le (by omega) (by omega)]; omega))) .nil)))) .nil) (show 0 ≤ a.length ∧ a.length = b.length ∧ allTo 0 (fun i => intEq (a.getD i default) (b.getD i default)) = true by exact ⟨by omega, by (first | omega | (simp at c0; omega)), rfl⟩)
  ·rintro j hI
   have hI : j ≤ a.length ∧ a.length = b.length ∧ allTo j (fun i => intEq (a.getD i default) (b.getD i default)) = true := hI
   refine .seq <| .rs fun k8 => .bi rfl <| .z <| .seq ?_
   refine .cond (t := decide ((j : Int) < (a.length : Int))) rfl (fun c1 => ?_) (fun c1 => ?_)
   ·have c1 := of_decide_eq_true c1
    refine .skip <| .seq <| .block <| .seq <| .rs fun k9 => .mv rfl <| .as rfl <| .z <| .seq ?_
    refine .regD (X := Unit) (by kernel_rfl) (fun ζ => .of [(0, .one (.d (.sl false 2 1 (List.map i64c (a))))), (1, .one (.d (.sl false 2 1 (List.map i64c (b))))), (12, .one (.d (.v (.int .i64 ((a.length : Int)))))), (13, .one (.d (.v (.int .i64 ((j : Int)))))), (24, .one (.d (.v (.bool ((a.getD j default) != (b.getD j default))))))] []) [⟨[0], some 16, [], []⟩, ⟨[5], some 17, [], []⟩, ⟨[16, 17], some 18, [], []⟩, ⟨[18], some 19, [], []⟩, ⟨[1], some 20, [], []⟩, ⟨[5], some 21, [], []⟩, ⟨[20, 21], some 22, [], []⟩, ⟨[22], some 23, [], []⟩, ⟨[19, 23], some 24, [], []⟩] (by kernel_rfl) (fun k10 => ?_) ?_
    ·skip
     refine .move (.no rfl) rfl rfl rfl rfl <| .move (.no rfl) rfl rfl rfl rfl <| .indexAddr (.no rfl) rfl (j) t42 rfl t2 rfl rfl rfl (.d _ _) rfl rfl rfl (map_get (by omega)) rfl rfl <| .load (.no rfl) rfl t2 rfl rfl (.d _) rfl rfl rfl rfl <| .move (.no rfl) rfl rfl rfl rfl <| .move (.no rfl) rfl rfl rfl rfl <| .indexAddr (.no rfl) rfl (j) t42 rfl t2 rfl rfl rfl (.d _ _) rfl rfl rfl (map_get (by omega)) rfl rfl <| .load (.no rfl) rfl t2 rfl rfl (.d _) rfl rfl rfl rfl <| .bin (.no rfl) rfl rfl rfl rfl rfl rfl ?_
     exact .fin () (.of (.r rfl) .nil)
    intro _
    refine .cond (t := (a.getD j default) != (b.getD j default)) rfl (fun c2 => ?_) (fun c2 => ?_)
    ·have c2 := (by simpa using c2 : ¬ ((a.getD j default) = (b.getD j default)))
     refine .seq <| .rs fun k11 => .as rfl <| .z <| .ret ?_
     exact fin0 (.inr rfl) (.one (svB (show (false) = (all2 intEq a b) by exact (all2_fail _ (j := j) (by omega) (by simpa [intEq] using c2)).symm)) .nil) (.dd .nil) rfl
    ·have c2 := (by simpa using c2 : (a.getD j default) = (b.getD j default))
     refine .skip <| .rs fun k13 => .bi rfl <| .mv rfl <| .z ?_
     exact .here (j + 1) (.of (.cons rfl (.cons rfl (.cons rfl (.cons (svI (show (IntKind.wrap .i64 ((j : Int) + 1)) = (((j + 1) : Int)) by first | rfl | omega | exact wrap_le (by omega) (by omega) | (rw [wrap_le (by omega) (by omega)]; omega))) .nil)))) .nil) ⟨(show (j + 1) ≤ a.length ∧ a.length = b.length ∧ allTo (j + 1) (fun i => intEq (a.getD i default) (b.getD i default)) = true by exact ⟨by omega, by omega, allTo_step hI.2.2 (by simpa [intEq] using c2)⟩), (show a.length - (j + 1) < a.length - j by omega)⟩
   ·have c1 := of_decide_eq_false c1
    refine .exit <| .seq <| .rs fun k14 => .as rfl <| .z <| .ret ?_
    exact fin0 (.inr rfl) (.one (svB (show (true) = (all2 intEq a b) by (have hj : j = a.length := (by omega); subst hj; exact (all2_done _ hI.2.1 hI.2.2).symm))) .nil) (.dd .nil) rfl
end Go.Proofs

namespace Go.Proofs
open Go Go.Proofs Go.Ev

theorem c_kindOf (d : Decl) (l : List Tok) : Trip Tryd.prog 38 [(true, 3), (false, 1)] (Decl.c36 d ++ [.sl false 40 2 (List.map Tok.c (l))]) [(false, 1)] [.v (.int .i64 (Expr.kind d l))] [] := by
 refine Trip.of Tryd.func38 (by decide) (c := _) rfl rfl (Nat.le_of_ble_eq_true rfl) rfl (AftOk.nil _) <| .sla (t := 0) 0 rfl rfl fun hs1l => .sla (t := 0) 1 rfl rfl fun hs2l => .sla (t := 0) 2 rfl rfl fun hs3l => .sl (t := 1) rfl fun hs4l => .seq <| .rs fun k5 => .g (fun _ τ => ⟨_, .box (.no rfl) rfl rfl rfl rfl rfl τ⟩) <| .as rfl ?_
 refine .z <| .seq <| .seq ?_
 refine .reg (X := Unit) (fun ζ => .of [(1, .one (.d (.sl false 40 2 (List.map Tok.c (l))))), (19, .one (.d (.v (.bool ((decide ((l.length : Int) > 40) || !(l.all (fun x0 => Tok.ok d x0))))))))] []) [⟨[1], some 10, [], []⟩, ⟨[10], some 11, [], []⟩, ⟨[11], some 12, [], []⟩, ⟨[12], some 13, [], []⟩, ⟨[13, 1], some 14, [], []⟩, ⟨[13, 2], some 15, [[2]], []⟩, ⟨[13, 15], some 16, [], []⟩, ⟨[13, 14, 16], some 17, [], []⟩, ⟨[13, 17], some 18, [], []⟩, ⟨[13, 18], some 19, [], []⟩] (fun k6 => ?_) ?_
 ·skip
  refine .move (.no rfl) rfl rfl rfl rfl <| .len (.no rfl) rfl (z := (l.length : Int)) t41 rfl rfl rfl (.d _ _) (map_len _ _) rfl <| .bin (.no rfl) rfl rfl rfl rfl rfl rfl <| .moveB (.no rfl) rfl rfl rfl rfl fun b7 g1_3 => ?_
  cases b7
  ·skip
   refine .move (.on rfl rfl rfl rfl rfl) rfl rfl rfl rfl <| .load (.on rfl rfl rfl rfl rfl) rfl t36 rfl rfl (.ptr _ _ _ _ _ rfl) rfl rfl rfl rfl <| .makeFunc (.on rfl rfl rfl rfl rfl) rfl rfl rfl rfl rfl <| .call (.on rfl rfl rfl rfl rfl) rfl [] [] (c_areAllK l 62 [(true, [.sl false 9 1 (List.map strc (d.vars)), .sl false 9 1 (List.map strc (d.flags)), .sl false 78 2 (List.map Arr.c (d.arrays))])] [] (fun x0 => Tok.ok d x0) (fun x0 => c_isTok d x0)) rfl rfl rfl rfl rfl (.dd (.cons (Reads.clo1 (.cons (Reads.d _) (.cons (Reads.d _) (.cons (Reads.d _) .nil))) (.nil)).gives .nil)) rfl rfl (fun h => absurd rfl h) (.own [17, 0] .nil) (.nil) rfl rfl rfl (by simp) rfl rfl rfl <| .un (.on rfl rfl rfl rfl rfl) rfl rfl rfl rfl rfl <| .pick (.no rfl) rfl rfl rfl rfl rfl ?_
   exact .fin () (.of (.cons rfl (.cons (svB (show (!(l.all (fun x0 => Tok.ok d x0))) = ((decide ((l.length : Int) > 40) || !(l.all (fun x0 => Tok.ok d x0)))) by first | (simp only [g1_3, Bool.true_or, Bool.false_or, Bool.true_and, Bool.false_and, Bool.not_true, Bool.not_false]; done) | (simp [g1_3]; done) | (exfalso; simp_all; done))) .nil)) .nil)
  ·skip
   refine .off rfl rfl rfl rfl rfl rfl rfl <| .off rfl rfl rfl rfl rfl rfl rfl <| .off rfl rfl rfl rfl rfl rfl rfl <| .off rfl rfl rfl rfl rfl rfl rfl <| .off rfl rfl rfl rfl rfl rfl rfl <| .pick (.no rfl) rfl rfl rfl rfl rfl ?_
   exact .fin () (.of (.cons rfl (.cons (svB (show (true) = ((decide ((l.length : Int) > 40) || !(l.all (fun x0 => Tok.ok d x0)))) by first | (simp only [g1_3, Bool.true_or, Bool.false_or, Bool.true_and, Bool.false_and, Bool.not_true, Bool.not_false]; done) | (simp [g1_3]; done) | (exfalso; simp_all; done))) .nil)) .nil)
 intro _
 refine .cond (t := (decide ((l.length : Int) > 40) || !(l.all (fun x0 => Tok.ok d x0)))) rfl (fun c0 => ?_) (fun c0 => ?_)
 ·have c0 := (oT dT (nT id)) c0
  refine .seq <| .rs fun k8 => .as rfl <| .z <| .ret ?_
  exact fin0 (.inr rfl) (.one (svI (show (0) = (Expr.kind d l) by (rcases c0 with h | h; exact (kind_long (by omega)).symm; exact (kind_bad h).symm))) .nil) (.dd .nil) rfl
 ·have c0 := (oF dF (nF id)) c0
  have ha : ∀ i, i < l.length → Tok.ok d (l.getD i default) = true := fun i hi => List.all_eq_true.1 c0.2 _ (getD_mem hi)
  refine .skip <| .seq <| .rs fun k10 => .as rfl <| .z <| .seq <| .seq <| .rs fun k11 => .mv rfl ?_
  refine .g (fun _ τ => ⟨_, .len (.no rfl) rfl (z := (l.length : Int)) t41 rfl rfl rfl (.d _ _) (map_len _ _) rfl τ⟩) <| .mv rfl <| .z <| .block ?_
  refine .loop (X := Nat × List Int × Nat × Nat) (fun ζ => .of [(5, .one (.ref [51] (ζ.2.2.1))), (20, .one (.d (.sl false 40 2 (List.map Tok.c (l))))), (21, .one (.d (.v (.int .i64 ((l.length : Int)))))), (22, .one (.d (.v (.int .i64 ((ζ.1 : Int))))))] [([51], (ζ.2.2.1, ζ.2.2.2, .row 2 1 (List.map i64c (ζ.2.1))))]) (fun ζ => ζ.1 ≤ l.length ∧ kdS d l ζ.1 = some ζ.2.1) (fun ζ => l.length - ζ.1) ?_ ?_
  ·skip
   refine .nilRow 5 [51] 2 1 rfl fun k14 => ?_
   exact .here (0, [], k14, k14) (.of (.cons rfl (.cons rfl (.cons rfl (.cons (svI (show (0) = ((0 : Int)) by first | rfl | omega | exact wrap_le (by omega) (by omega) | (rw [wrap_le (by omega) (by omega)]; omega))) .nil)))) (.cons (rowE (show [] = List.map i64c ([]) by first | with_reducible rfl | rfl)) .nil)) (show 0 ≤ l.length ∧ kdS d l 0 = some [] by exact ⟨by omega, rfl⟩)
  ·rintro ⟨j, p, q12, q13⟩ hI
   have hI : j ≤ l.length ∧ kdS d l j = some p := hI
   have hp9 := kdS_len hI.2
   have ht9 := takesL_len (l.getD j default).op
   dsimp only
   refine .seq <| .rs fun k15 => .bi rfl <| .z <| .seq ?_
   refine .cond (t := decide ((j : Int) < (l.length : Int))) rfl (fun c1 => ?_) (fun c1 => ?_)
   ·have c1 := of_decide_eq_true c1
    refine .skip <| .seq <| .block <| .seq <| .rs fun k16 => .g (fun _ τ => ⟨_, .indexAddr (.no rfl) rfl (j) t41 rfl t40 rfl rfl rfl (.d _ _) rfl rfl rfl (map_get (by omega)) rfl rfl τ⟩) <| .lda t40 rfl (.d _) rfl <| .g (fun _ τ => ⟨_, .alloc (.no rfl) rfl z40 rfl rfl rfl τ⟩) <| .g (fun _ τ => ⟨_, .store (.no rfl) rfl t40 rfl rfl rfl rfl rfl rfl rfl rfl rfl τ⟩) ?_
    refine .z <| .seq <| .rs fun k17 => .fp t40 t2 rfl <| .ld t2 rfl (.ptr _ _ _ _ _ rfl) rfl <| .c0 (c_takes ((l.getD j default).op)) rfl (.dd .nil) (.own [28, 0] .nil) rfl <| .as rfl <| .z <| .seq ?_
    refine .rs fun k18 => .mv rfl <| .g (fun _ τ => ⟨_, .len (.no rfl) rfl (z := (p.length : Int)) t42 rfl rfl rfl (.ref _ _ _ _ _ rfl) (map_len _ _) rfl τ⟩) <| .mv rfl <| .g (fun _ τ => ⟨_, .len (.no rfl) rfl (z := ((takesL ((l.getD j default).op)).length : Int)) t42 rfl rfl rfl (.d _ _) (map_len _ _) rfl τ⟩) <| .g (fun _ τ => ⟨_, .binN (.no rfl) rfl (show IntKind.wrap .i64 ((p.length : Int) - ((takesL ((l.getD j default).op)).length : Int)) = (p.length : Int) - ((takesL (l.getD j default).op).length : Int) by (exact wrap_le (by omega) (by omega))) rfl rfl rfl rfl rfl τ⟩) <| .as rfl <| .z <| .seq ?_
    refine .seq ?_
    refine .reg (X := Unit) (fun ζ => .of [(5, .one (.ref [51] (q12))), (7, .one (.ptr [7] (k16 + 1 + 1) 0)), (9, .one (.d (.v (.int .i64 ((p.length : Int) - ((takesL (l.getD j default).op).length : Int)))))), (20, .one (.d (.sl false 40 2 (List.map Tok.c (l))))), (21, .one (.d (.v (.int .i64 ((l.length : Int)))))), (22, .one (.d (.v (.int .i64 ((j : Int)))))), (43, .one (.d (.v (.bool ((decide (((p.length : Int) - ((takesL (l.getD j default).op).length : Int)) < 0) || !(all2 intEq (p.drop (((p.length : Int) - ((takesL (l.getD j default).op).length : Int)).toNat)) (takesL ((l.getD j default).op)))))))))] [([7], (k16 + 1 + 1, k16 + 1 + 1 + 1, .box [.d (.v (.int .i64 ((l.getD j default).op))), .d (.v (.int .i64 ((l.getD j default).n)))])), ([51], (q12, q13, .row 2 1 (List.map i64c (p))))]) [⟨[9], some 34, [], []⟩, ⟨[34], some 35, [], []⟩, ⟨[35], some 36, [], []⟩, ⟨[36, 5], some 37, [], []⟩, ⟨[36, 9], some 38, [], []⟩, ⟨[36, 37, 38], some 39, [[51]], []⟩, ⟨[36, 8], some 40, [], []⟩, ⟨[36, 39, 40], some 41, [[51]], []⟩, ⟨[36, 41], some 42, [], []⟩, ⟨[36, 42], some 43, [], []⟩] (fun k19 => ?_) ?_
    ·skip
     refine .move (.no rfl) rfl rfl rfl rfl <| .bin (.no rfl) rfl rfl rfl rfl rfl rfl <| .moveB (.no rfl) rfl rfl rfl rfl fun b20 g9_2 => ?_
     cases b20
     ·skip
      refine .move (.on rfl rfl rfl rfl rfl) rfl rfl rfl rfl <| .move (.on rfl rfl rfl rfl rfl) rfl rfl rfl rfl <| .slice (.on rfl rfl rfl rfl rfl) rfl (lv := ((p.length : Int) - ((takesL (l.getD j default).op).length : Int)).toNat) (hv := (List.map i64c (p)).length) (m := q13) t42 rfl t2 rfl rfl (.ref _ _ _ _ _ rfl) rfl (by intro _ _ h; cases h; exact ⟨_, .head _⟩) (by exact ⟨_, nat_iv (a := (p.length : Int) - ((takesL (l.getD j default).op).length : Int)) (by (first | omega | (have h9 := of_decide_eq_false g9_2; omega)))⟩) (by exact rfl) (le_map (by (first | omega | (have h9 := of_decide_eq_false g9_2; omega)))) (Nat.le_refl _) (cut_ref (L := p) i64c_e) rfl <| .move (.on rfl rfl rfl rfl rfl) rfl rfl rfl rfl ?_
      refine .call (.on rfl rfl rfl rfl rfl) rfl [[51]] [([51], (q12, q13, .row 2 1 (List.map i64c (p))))] (c_EqualN (p.drop (((p.length : Int) - ((takesL (l.getD j default).op).length : Int)).toNat)) (takesL ((l.getD j default).op))) rfl rfl rfl rfl rfl (.cons (Reads.view (.head _) (.head _)).gives (.dd .nil)) rfl rfl (fun _ => (ownCons (Owned.v _) ownNil)) (.own [41, 0] .nil) (.nil) rfl rfl rfl (AllH.get (.r rfl)) rfl rfl rfl <| .un (.on rfl rfl rfl rfl rfl) rfl rfl rfl rfl rfl <| .pick (.no rfl) rfl rfl rfl rfl rfl ?_
      exact .fin () (.of (.cons rfl (.cons rfl (.cons rfl (.cons rfl (.cons rfl (.cons rfl (.cons (svB (show (!(all2 intEq (p.drop (((p.length : Int) - ((takesL (l.getD j default).op).length : Int)).toNat)) (takesL ((l.getD j default).op)))) = ((decide (((p.length : Int) - ((takesL (l.getD j default).op).length : Int)) < 0) || !(all2 intEq (p.drop (((p.length : Int) - ((takesL (l.getD j default).op).length : Int)).toNat)) (takesL ((l.getD j default).op))))) by first | (simp only [g9_2, Bool.true_or, Bool.false_or, Bool.true_and, Bool.false_and, Bool.not_true, Bool.not_false]; done) | (simp [g9_2]; done) | (exfalso; simp_all; done))) .nil))))))) (.r rfl))
     ·skip
      refine .off rfl rfl rfl rfl rfl rfl rfl <| .off rfl rfl rfl rfl rfl rfl rfl <| .off rfl rfl rfl rfl rfl rfl rfl <| .off rfl rfl rfl rfl rfl rfl rfl <| .off rfl rfl rfl rfl rfl rfl rfl <| .off rfl rfl rfl rfl rfl rfl rfl <| .pick (.no rfl) rfl rfl rfl rfl rfl ?_
      exact .fin () (.of (.cons rfl (.cons rfl (.cons rfl (.cons rfl (.cons rfl (.cons rfl (.cons (svB (show (true) = ((decide (((p.length : Int) - ((takesL (l.getD j default).op).length : Int)) < 0) || !(all2 intEq (p.drop (((p.length : Int) - ((takesL (l.getD j default).op).length : Int)).toNat)) (takesL ((l.getD j default).op))))) by first | (simp only [g9_2, Bool.true_or, Bool.false_or, Bool.true_and, Bool.false_and, Bool.not_true, Bool.not_false]; done) | (simp [g9_2]; done) | (exfalso; simp_all; done))) .nil))))))) (.r rfl))
    intro _
    refine .cond (t := (decide (((p.length : Int) - ((takesL (l.getD j default).op).length : Int)) < 0) || !(all2 intEq (p.drop (((p.length : Int) - ((takesL (l.getD j default).op).length : Int)).toNat)) (takesL ((l.getD j default).op))))) rfl (fun c2 => ?_) (fun c2 => ?_)
    ·have c2 := (oT dT (nT id)) c2
     have hb : kdS d l (j + 1) = none := kd_noI hI.2 (ha j (by omega)) c2
     refine .seq <| .rs fun k21 => .as rfl <| .z <| .ret ?_
     exact fin0 (.inr rfl) (.one (svI (show (0) = (Expr.kind d l) by (rw [kind_none (by omega) hb]))) .nil) (.dd .nil) rfl
    ·have c2 := (oF dF (nF id)) c2
     refine .skip ?_
     refine .regD (X := Nat) (by kernel_rfl) (fun ζ => .of [(5, .one (.ref [51] (ζ))), (20, .one (.d (.sl false 40 2 (List.map Tok.c (l))))), (21, .one (.d (.v (.int .i64 ((l.length : Int)))))), (22, .one (.d (.v (.int .i64 ((j : Int))))))] [([51], (ζ, ζ, .row 2 1 (List.map i64c (p.take (((p.length : Int) - ((takesL (l.getD j default).op).length : Int)).toNat) ++ [leavesK ((l.getD j default).op)]))))]) [⟨[5], some 44, [], []⟩, ⟨[9], some 45, [], []⟩, ⟨[44, 45], some 46, [[51]], [[51]]⟩, ⟨[7], some 47, [], []⟩, ⟨[47], some 48, [[7]], []⟩, ⟨[48], some 49, [], []⟩, ⟨[49], some 50, [], [[50]]⟩, ⟨[46, 50], some 51, [[51], [50]], [[50], [51]]⟩, ⟨[51], some 5, [], []⟩] (by kernel_rfl) (fun k23 => ?_) ?_
     ·skip
      refine .move (.no rfl) rfl rfl rfl rfl <| .move (.no rfl) rfl rfl rfl rfl <| .trim (.no rfl) rfl (hv := ((p.length : Int) - ((takesL (l.getD j default).op).length : Int)).toNat) (els' := List.map i64c (p.take (((p.length : Int) - ((takesL (l.getD j default).op).length : Int)).toNat))) t42 rfl t2 rfl rfl rfl rfl (by exact ⟨_, nat_iv (a := (p.length : Int) - ((takesL (l.getD j default).op).length : Int)) (by (first | omega | (have h9 := of_decide_eq_false g9_2; omega)))⟩) (le_map (by (first | omega | (have h9 := of_decide_eq_false g9_2; omega)))) (by rw [List.map_take]) rfl <| .fieldAddrP (.no rfl) rfl t40 rfl rfl t2 rfl rfl rfl rfl <| .load (.no rfl) rfl t2 rfl rfl (.ptr _ _ _ _ _ rfl) rfl rfl rfl rfl ?_
      refine .call (.no rfl) rfl [] [] (c_leaves1 ((l.getD j default).op)) rfl rfl rfl rfl rfl (.dd .nil) rfl rfl (fun h => absurd rfl h) (.own [49, 0] .nil) (.nil) rfl rfl rfl (by simp) rfl rfl rfl <| .buildSlice (.no rfl) rfl (els := [[.v (.int .i64 (leavesK ((l.getD j default).op)))]]) t42 rfl z2 rfl rfl rfl rfl rfl rfl rfl rfl (by simp [i2]) (.cons _ _ _ _ _ _ (.d _) .nil) rfl rfl rfl <| .append (.no rfl) rfl (l3 := List.map i64c (p.take (((p.length : Int) - ((takesL (l.getD j default).op).length : Int)).toNat) ++ [leavesK ((l.getD j default).op)])) t42 rfl z2 rfl rfl rfl rfl rfl rfl rfl rfl (.ref _ _ _ _ rfl) (.take _ _ _ _ _ rfl) rfl (by first | (simp [i2]; omega) | (simp [i3]; omega)) (map_snoc _ _ _) rfl rfl <| .assign (.no rfl) rfl rfl rfl rfl ?_
      exact .fin (k23 + 1 + 1 + 1 + 1 + 1 + 1 + 1) (.of (.r rfl) (.r rfl))
     intro g24
     refine .rs fun k25 => .bi rfl <| .mv rfl <| .z ?_
     exact .here ((j + 1), (p.take ((p.length : Int) - ((takesL (l.getD j default).op).length : Int)).toNat ++ [leavesK (l.getD j default).op]), g24, g24) (.of (.cons rfl (.cons rfl (.cons rfl (.cons (svI (show (IntKind.wrap .i64 ((j : Int) + 1)) = (((j + 1) : Int)) by first | rfl | omega | exact wrap_le (by omega) (by omega) | (rw [wrap_le (by omega) (by omega)]; omega))) .nil)))) (.cons (rowE (show List.map i64c (p.take (((p.length : Int) - ((takesL (l.getD j default).op).length : Int)).toNat) ++ [leavesK ((l.getD j default).op)]) = List.map i64c ((p.take ((p.length : Int) - ((takesL (l.getD j default).op).length : Int)).toNat ++ [leavesK (l.getD j default).op])) by first | with_reducible rfl | rfl)) .nil)) ⟨(show (j + 1) ≤ l.length ∧ kdS d l (j + 1) = some (p.take ((p.length : Int) - ((takesL (l.getD j default).op).length : Int)).toNat ++ [leavesK (l.getD j default).op]) by exact ⟨by omega, kd_goI hI.2 (ha j (by omega)) c2⟩), (show l.length - (j + 1) < l.length - j by omega)⟩
   ·have c1 := of_decide_eq_false c1
    refine .exit <| .seq <| .seq <| .rs fun k26 => .mv rfl <| .g (fun _ τ => ⟨_, .len (.no rfl) rfl (z := (p.length : Int)) t42 rfl rfl rfl (.ref _ _ _ _ _ rfl) (map_len _ _) rfl τ⟩) <| .bi rfl <| .z ?_
    refine .cond (t := (p.length : Int) != 1) rfl (fun c3 => ?_) (fun c3 => ?_)
    ·have c3 := (by simpa using c3 : ¬ ((p.length : Int) = 1))
     refine .seq <| .rs fun k27 => .as rfl <| .z <| .ret ?_
     exact fin0 (.inr rfl) (.one (svI (show (0) = (Expr.kind d l) by (rw [kind_many (by omega) hI.2 (by omega)]))) .nil) (.dd .nil) rfl
    ·have c3 := (by simpa using c3 : (p.length : Int) = 1)
     refine .skip <| .seq <| .rs fun k29 => .mv rfl <| .g (fun _ τ => ⟨_, .indexAddr (.no rfl) rfl (0) t42 rfl t2 rfl rfl rfl (.ref _ _ _ _ _ rfl) rfl rfl rfl (map_get (by omega)) rfl rfl τ⟩) <| .ld t2 rfl (.eptr _ _ _ _ _ _ _ _ _ rfl (map_get (by omega))) rfl <| .as rfl <| .z <| .ret ?_
     exact fin0 (.inr rfl) (.one (svI (show (p.getD 0 default) = (Expr.kind d l) by (rw [kind_one (by omega) (by omega) hI.2 (by omega)]))) .nil) (.dd .nil) rfl
end Go.Proofs

namespace Go.Proofs
open Go Go.Proofs Go.Ev

def i4 : TI := ⟨.bool, 1, 1, [.bool false]⟩
theorem t4 : TyOk Tryd.prog 4 i4 := ⟨Tryd.underlying4, by kernel_rfl⟩
theorem z4 : ZOk Tryd.prog 4 i4 := ⟨t4, rfl⟩
def i65 : TI := ⟨.int .u64, 1, 8, [.int .u64 0]⟩
theorem t65 : TyOk Tryd.prog 65 i65 := ⟨Tryd.underlying65, by kernel_rfl⟩
theorem z65 : ZOk Tryd.prog 65 i65 := ⟨t65, rfl⟩
theorem c_sNumAdd (a : Int) (b : Int) : Trip Tryd.prog 82 [(false, 1), (false, 1)] ([.v (.int .i64 (a))] ++ [.v (.int .i64 (b))]) [(false, 1), (false, 1)] [.v (.int .i64 (addV a b)), .v (.int .i64 (addO a b))] [] := by
 refine Trip.of Tryd.func82 (by decide) (c := _) rfl rfl (Nat.le_of_ble_eq_true rfl) rfl (AftOk.nil _) <| .seq <| .rs fun k1 => .as rfl <| .as rfl <| .z <| .seq <| .block <| .seq ?_
 refine .reg (X := Unit) (fun ζ => .of [(0, .one (.d (.v (.int .i64 (a))))), (1, .one (.d (.v (.int .i64 (b))))), (6, .one (.d (.v (.bool ((decide (b > 0) && decide (a > (IntKind.wrap .i64 (9223372036854775807 - b)))))))))] []) [⟨[1], some 7, [], []⟩, ⟨[7], some 8, [], []⟩, ⟨[8], some 9, [], []⟩, ⟨[9, 0], some 10, [], []⟩, ⟨[9, 1], some 11, [], []⟩, ⟨[9, 11], some 12, [], []⟩, ⟨[9, 10, 12], some 13, [], []⟩, ⟨[9, 13], some 14, [], []⟩, ⟨[14], some 6, [], []⟩] (fun k2 => ?_) ?_
 ·skip
  refine .move (.no rfl) rfl rfl rfl rfl <| .bin (.no rfl) rfl rfl rfl rfl rfl rfl <| .moveB (.no rfl) rfl rfl rfl rfl fun b3 g1_2 => ?_
  cases b3
  ·skip
   refine .off rfl rfl rfl rfl rfl rfl rfl <| .off rfl rfl rfl rfl rfl rfl rfl <| .off rfl rfl rfl rfl rfl rfl rfl <| .off rfl rfl rfl rfl rfl rfl rfl <| .pick (.no rfl) rfl rfl rfl rfl rfl <| .assign (.no rfl) rfl rfl rfl rfl ?_
   exact .fin () (.of (.cons rfl (.cons rfl (.cons (svB (show (false) = ((decide (b > 0) && decide (a > (IntKind.wrap .i64 (9223372036854775807 - b))))) by first | (simp only [g1_2, Bool.true_or, Bool.false_or, Bool.true_and, Bool.false_and, Bool.not_true, Bool.not_false]; done) | (simp [g1_2]; done) | (exfalso; simp_all; done))) .nil))) .nil)
  ·skip
   refine .move (.on rfl rfl rfl rfl rfl) rfl rfl rfl rfl <| .move (.on rfl rfl rfl rfl rfl) rfl rfl rfl rfl <| .bin (.on rfl rfl rfl rfl rfl) rfl rfl rfl rfl rfl rfl <| .bin (.on rfl rfl rfl rfl rfl) rfl rfl rfl rfl rfl rfl <| .pick (.no rfl) rfl rfl rfl rfl rfl <| .assign (.no rfl) rfl rfl rfl rfl ?_
   exact .fin () (.of (.cons rfl (.cons rfl (.cons (svB (show (decide (a > (IntKind.wrap .i64 (9223372036854775807 - b)))) = ((decide (b > 0) && decide (a > (IntKind.wrap .i64 (9223372036854775807 - b))))) by first | (simp only [g1_2, Bool.true_or, Bool.false_or, Bool.true_and, Bool.false_and, Bool.not_true, Bool.not_false]; done) | (simp [g1_2]; done) | (exfalso; simp_all; done))) .nil))) .nil)
 intro _
 refine .cond (t := (decide (b > 0) && decide (a > (IntKind.wrap .i64 (9223372036854775807 - b))))) rfl (fun c0 => ?_) (fun c0 => ?_)
 ·have c0 := (aT dT dT) c0
  refine .seq <| .rs fun k4 => .as rfl <| .as rfl <| .z <| .ret ?_
  exact fin0 (.inr rfl) (.one (svI (show (0) = (addV a b) by (first | exact (add_1 c0).1.symm | exact (add_1 c0).2.symm))) (.one (svI (show (1) = (addO a b) by (first | exact (add_1 c0).1.symm | exact (add_1 c0).2.symm))) .nil)) (.dd (.dd .nil)) rfl
 ·have c0 := (aF dF dF) c0
  refine .seq ?_
  refine .reg (X := Unit) (fun ζ => .of [(0, .one (.d (.v (.int .i64 (a))))), (1, .one (.d (.v (.int .i64 (b))))), (15, .one (.d (.v (.bool ((decide (b < 0) && decide (a < (IntKind.wrap .i64 ((-9223372036854775808) - b)))))))))] []) [⟨[1], some 16, [], []⟩, ⟨[16], some 17, [], []⟩, ⟨[17], some 18, [], []⟩, ⟨[18, 0], some 19, [], []⟩, ⟨[18, 1], some 20, [], []⟩, ⟨[18, 20], some 21, [], []⟩, ⟨[18, 19, 21], some 22, [], []⟩, ⟨[18, 22], some 23, [], []⟩, ⟨[23], some 15, [], []⟩] (fun k7 => ?_) ?_
  ·skip
   refine .move (.no rfl) rfl rfl rfl rfl <| .bin (.no rfl) rfl rfl rfl rfl rfl rfl <| .moveB (.no rfl) rfl rfl rfl rfl fun b8 g3_2 => ?_
   cases b8
   ·skip
    refine .off rfl rfl rfl rfl rfl rfl rfl <| .off rfl rfl rfl rfl rfl rfl rfl <| .off rfl rfl rfl rfl rfl rfl rfl <| .off rfl rfl rfl rfl rfl rfl rfl <| .pick (.no rfl) rfl rfl rfl rfl rfl <| .assign (.no rfl) rfl rfl rfl rfl ?_
    exact .fin () (.of (.cons rfl (.cons rfl (.cons (svB (show (false) = ((decide (b < 0) && decide (a < (IntKind.wrap .i64 ((-9223372036854775808) - b))))) by first | (simp only [g3_2, Bool.true_or, Bool.false_or, Bool.true_and, Bool.false_and, Bool.not_true, Bool.not_false]; done) | (simp [g3_2]; done) | (exfalso; simp_all; done))) .nil))) .nil)
   ·skip
    refine .move (.on rfl rfl rfl rfl rfl) rfl rfl rfl rfl <| .move (.on rfl rfl rfl rfl rfl) rfl rfl rfl rfl <| .bin (.on rfl rfl rfl rfl rfl) rfl rfl rfl rfl rfl rfl <| .bin (.on rfl rfl rfl rfl rfl) rfl rfl rfl rfl rfl rfl <| .pick (.no rfl) rfl rfl rfl rfl rfl <| .assign (.no rfl) rfl rfl rfl rfl ?_
    exact .fin () (.of (.cons rfl (.cons rfl (.cons (svB (show (decide (a < (IntKind.wrap .i64 ((-9223372036854775808) - b)))) = ((decide (b < 0) && decide (a < (IntKind.wrap .i64 ((-9223372036854775808) - b))))) by first | (simp only [g3_2, Bool.true_or, Bool.false_or, Bool.true_and, Bool.false_and, Bool.not_true, Bool.not_false]; done) | (simp [g3_2]; done) | (exfalso; simp_all; done))) .nil))) .nil)
  intro _
  refine .cond (t := (decide (b < 0) && decide (a < (IntKind.wrap .i64 ((-9223372036854775808) - b))))) rfl (fun c1 => ?_) (fun c1 => ?_)
  ·have c1 := (aT dT dT) c1
   refine .seq <| .rs fun k9 => .as rfl <| .as rfl <| .z <| .ret ?_
   exact fin0 (.inr rfl) (.one (svI (show (0) = (addV a b) by (first | exact (add_2 c0 c1).1.symm | exact (add_2 c0 c1).2.symm))) (.one (svI (show (-1) = (addO a b) by (first | exact (add_2 c0 c1).1.symm | exact (add_2 c0 c1).2.symm))) .nil)) (.dd (.dd .nil)) rfl
  ·have c1 := (aF dF dF) c1
   refine .skip <| .seq <| .rs fun k12 => .mv rfl <| .mv rfl <| .bi rfl <| .as rfl <| .as rfl <| .z ?_
   refine .ret ?_
   exact fin0 (.inr rfl) (.one (svI (show (IntKind.wrap .i64 (a + b)) = (addV a b) by (first | exact (add_3 c0 c1).1.symm | exact (add_3 c0 c1).2.symm))) (.one (svI (show (0) = (addO a b) by (first | exact (add_3 c0 c1).1.symm | exact (add_3 c0 c1).2.symm))) .nil)) (.dd (.dd .nil)) rfl
theorem c_side (is : Bool) : Trip Tryd.prog 109 [(false, 1)] ([.v (.bool (is))]) [(false, 1)] [.v (.int .i64 (bif is then -1 else 1))] [] := by
 refine Trip.of Tryd.func109 (by decide) (c := _) rfl rfl (Nat.le_of_ble_eq_true rfl) rfl (AftOk.nil _) <| .seq <| .rs fun k1 => .as rfl <| .z <| .seq <| .seq <| .rs fun k2 => .mv rfl ?_
 refine .z ?_
 refine .cond (t := is) rfl (fun c0 => ?_) (fun c0 => ?_)
 ·have c0 := c0
  refine .seq <| .rs fun k3 => .as rfl <| .z <| .ret ?_
  exact fin0 (.inr rfl) (.one (svI (show (-1) = (bif is then -1 else 1) by (rw [c0]; rfl))) .nil) (.dd .nil) rfl
 ·have c0 := c0
  refine .skip <| .seq <| .rs fun k5 => .as rfl <| .z <| .ret ?_
  exact fin0 (.inr rfl) (.one (svI (show (1) = (bif is then -1 else 1) by (rw [c0]; rfl))) .nil) (.dd .nil) rfl
theorem c_NumAdd (a : Int) (b : Int) : Trip Tryd.prog 90 [(false, 1), (false, 1)] ([.v (.int .i64 (a))] ++ [.v (.int .i64 (b))]) [(false, 1), (false, 1)] [.v (.int .i64 (addV a b)), .v (.int .i64 (addO a b))] [] := by
 refine Trip.of Tryd.func90 (by decide) (c := _) rfl rfl (Nat.le_of_ble_eq_true rfl) rfl (AftOk.nil _) <| .seq <| .rs fun k1 => .as rfl <| .as rfl <| .z <| .seq <| .seq ?_
 refine .reg (X := Unit) (fun ζ => .of [(0, .one (.d (.v (.int .i64 (a))))), (1, .one (.d (.v (.int .i64 (b))))), (23, .one (.d (.v (.bool (((decide (b > 0) && decide (a > (IntKind.wrap .i64 (9223372036854775807 - b)))) || (decide (b < 0) && decide (a < (IntKind.wrap .i64 ((-9223372036854775808) - b))))))))))] []) [⟨[1], some 6, [], []⟩, ⟨[6], some 7, [], []⟩, ⟨[7], some 8, [], []⟩, ⟨[8, 0], some 9, [], []⟩, ⟨[8, 1], some 10, [], []⟩, ⟨[8, 10], some 11, [], []⟩, ⟨[8, 9, 11], some 12, [], []⟩, ⟨[8, 12], some 13, [], []⟩, ⟨[13], some 14, [], []⟩, ⟨[14, 1], some 15, [], []⟩, ⟨[14, 15], some 16, [], []⟩, ⟨[14, 16], some 17, [], []⟩, ⟨[17, 0], some 18, [], []⟩, ⟨[17, 1], some 19, [], []⟩, ⟨[17, 19], some 20, [], []⟩, ⟨[17, 18, 20], some 21, [], []⟩, ⟨[14, 17, 21], some 22, [], []⟩, ⟨[14, 22], some 23, [], []⟩] (fun k2 => ?_) ?_
 ·skip
  refine .move (.no rfl) rfl rfl rfl rfl <| .bin (.no rfl) rfl rfl rfl rfl rfl rfl <| .moveB (.no rfl) rfl rfl rfl rfl fun b3 g1_2 => ?_
  cases b3
  ·skip
   refine .off rfl rfl rfl rfl rfl rfl rfl <| .off rfl rfl rfl rfl rfl rfl rfl <| .off rfl rfl rfl rfl rfl rfl rfl <| .off rfl rfl rfl rfl rfl rfl rfl <| .pick (.no rfl) rfl rfl rfl rfl rfl <| .move (.no rfl) rfl rfl rfl rfl <| .move (.on rfl rfl rfl rfl rfl) rfl rfl rfl rfl <| .bin (.on rfl rfl rfl rfl rfl) rfl rfl rfl rfl rfl rfl <| .moveB (.on rfl rfl rfl rfl rfl) rfl rfl rfl rfl fun b4 g1_11 => ?_
   cases b4
   ·skip
    refine .off rfl rfl rfl rfl rfl rfl rfl <| .off rfl rfl rfl rfl rfl rfl rfl <| .off rfl rfl rfl rfl rfl rfl rfl <| .off rfl rfl rfl rfl rfl rfl rfl <| .pick (.on rfl rfl rfl rfl rfl) rfl rfl rfl rfl rfl <| .pick (.no rfl) rfl rfl rfl rfl rfl ?_
    exact .fin () (.of (.cons rfl (.cons rfl (.cons (svB (show (false) = (((decide (b > 0) && decide (a > (IntKind.wrap .i64 (9223372036854775807 - b)))) || (decide (b < 0) && decide (a < (IntKind.wrap .i64 ((-9223372036854775808) - b)))))) by first | (simp only [g1_2, g1_11, Bool.true_or, Bool.false_or, Bool.true_and, Bool.false_and, Bool.not_true, Bool.not_false]; done) | (simp [g1_2, g1_11]; done) | (exfalso; simp_all; done))) .nil))) .nil)
   ·skip
    refine .move (.on rfl rfl rfl rfl rfl) rfl rfl rfl rfl <| .move (.on rfl rfl rfl rfl rfl) rfl rfl rfl rfl <| .bin (.on rfl rfl rfl rfl rfl) rfl rfl rfl rfl rfl rfl <| .bin (.on rfl rfl rfl rfl rfl) rfl rfl rfl rfl rfl rfl <| .pick (.on rfl rfl rfl rfl rfl) rfl rfl rfl rfl rfl <| .pick (.no rfl) rfl rfl rfl rfl rfl ?_
    exact .fin () (.of (.cons rfl (.cons rfl (.cons (svB (show (decide (a < (IntKind.wrap .i64 ((-9223372036854775808) - b)))) = (((decide (b > 0) && decide (a > (IntKind.wrap .i64 (9223372036854775807 - b)))) || (decide (b < 0) && decide (a < (IntKind.wrap .i64 ((-9223372036854775808) - b)))))) by first | (simp only [g1_2, g1_11, Bool.true_or, Bool.false_or, Bool.true_and, Bool.false_and, Bool.not_true, Bool.not_false]; done) | (simp [g1_2, g1_11]; done) | (exfalso; simp_all; done))) .nil))) .nil)
  ·skip
   refine .move (.on rfl rfl rfl rfl rfl) rfl rfl rfl rfl <| .move (.on rfl rfl rfl rfl rfl) rfl rfl rfl rfl <| .bin (.on rfl rfl rfl rfl rfl) rfl rfl rfl rfl rfl rfl <| .bin (.on rfl rfl rfl rfl rfl) rfl rfl rfl rfl rfl rfl <| .pick (.no rfl) rfl rfl rfl rfl rfl <| .moveB (.no rfl) rfl rfl rfl rfl fun b5 g1_8 => ?_
   cases b5
   ·skip
    refine .move (.on rfl rfl rfl rfl rfl) rfl rfl rfl rfl <| .bin (.on rfl rfl rfl rfl rfl) rfl rfl rfl rfl rfl rfl <| .moveB (.on rfl rfl rfl rfl rfl) rfl rfl rfl rfl fun b6 g1_11 => ?_
    cases b6
    ·skip
     refine .off rfl rfl rfl rfl rfl rfl rfl <| .off rfl rfl rfl rfl rfl rfl rfl <| .off rfl rfl rfl rfl rfl rfl rfl <| .off rfl rfl rfl rfl rfl rfl rfl <| .pick (.on rfl rfl rfl rfl rfl) rfl rfl rfl rfl rfl <| .pick (.no rfl) rfl rfl rfl rfl rfl ?_
     exact .fin () (.of (.cons rfl (.cons rfl (.cons (svB (show (false) = (((decide (b > 0) && decide (a > (IntKind.wrap .i64 (9223372036854775807 - b)))) || (decide (b < 0) && decide (a < (IntKind.wrap .i64 ((-9223372036854775808) - b)))))) by first | (simp only [g1_2, g1_8, g1_11, Bool.true_or, Bool.false_or, Bool.true_and, Bool.false_and, Bool.not_true, Bool.not_false]; done) | (simp [g1_2, g1_8, g1_11]; done) | (exfalso; simp_all; done))) .nil))) .nil)
    ·skip
     refine .move (.on rfl rfl rfl rfl rfl) rfl rfl rfl rfl <| .move (.on rfl rfl rfl rfl rfl) rfl rfl rfl rfl <| .bin (.on rfl rfl rfl rfl rfl) rfl rfl rfl rfl rfl rfl <| .bin (.on rfl rfl rfl rfl rfl) rfl rfl rfl rfl rfl rfl <| .pick (.on rfl rfl rfl rfl rfl) rfl rfl rfl rfl rfl <| .pick (.no rfl) rfl rfl rfl rfl rfl ?_
     exact .fin () (.of (.cons rfl (.cons rfl (.cons (svB (show (decide (a < (IntKind.wrap .i64 ((-9223372036854775808) - b)))) = (((decide (b > 0) && decide (a > (IntKind.wrap .i64 (9223372036854775807 - b)))) || (decide (b < 0) && decide (a < (IntKind.wrap .i64 ((-9223372036854775808) - b)))))) by first | (simp only [g1_2, g1_8, g1_11, Bool.true_or, Bool.false_or, Bool.true_and, Bool.false_and, Bool.not_true, Bool.not_false]; done) | (simp [g1_2, g1_8, g1_11]; done) | (exfalso; simp_all; done))) .nil))) .nil)
   ·skip
    refine .off rfl rfl rfl rfl rfl rfl rfl <| .off rfl rfl rfl rfl rfl rfl rfl <| .off rfl rfl rfl rfl rfl rfl rfl <| .off' rfl rfl rfl rfl rfl rfl <| .off' rfl rfl rfl rfl rfl rfl <| .off' rfl rfl rfl rfl rfl rfl <| .off' rfl rfl rfl rfl rfl rfl <| .off rfl rfl rfl rfl rfl rfl rfl <| .pick (.no rfl) rfl rfl rfl rfl rfl ?_
    exact .fin () (.of (.cons rfl (.cons rfl (.cons (svB (show (true) = (((decide (b > 0) && decide (a > (IntKind.wrap .i64 (9223372036854775807 - b)))) || (decide (b < 0) && decide (a < (IntKind.wrap .i64 ((-9223372036854775808) - b)))))) by first | (simp only [g1_2, g1_8, Bool.true_or, Bool.false_or, Bool.true_and, Bool.false_and, Bool.not_true, Bool.not_false]; done) | (simp [g1_2, g1_8]; done) | (exfalso; simp_all; done))) .nil))) .nil)
 intro _
 refine .cond (t := ((decide (b > 0) && decide (a > (IntKind.wrap .i64 (9223372036854775807 - b)))) || (decide (b < 0) && decide (a < (IntKind.wrap .i64 ((-9223372036854775808) - b)))))) rfl (fun c0 => ?_) (fun c0 => ?_)
 ·have c0 := (oT (aT dT dT) (aT dT dT)) c0
  refine .seq <| .rs fun k7 => .mv rfl <| .bi rfl <| .c0 (c_side (decide (b < 0))) rfl (.dd .nil) (.own [26, 0] .nil) rfl <| .as rfl <| .as rfl <| .z <| .ret ?_
  exact fin0 (.inr rfl) (.one (svI (show (0) = (addV a b) by (rcases c0 with h | h; (first | exact (add_1 h).1.symm | (rw [(add_1 h).2, decide_eq_false (by omega)]; rfl)); (first | exact (add_2 (by omega) h).1.symm | (rw [(add_2 (by omega) h).2, decide_eq_true h.1]; rfl))))) (.one (svI (show (bif (decide (b < 0)) then -1 else 1) = (addO a b) by (rcases c0 with h | h; (first | exact (add_1 h).1.symm | (rw [(add_1 h).2, decide_eq_false (by omega)]; rfl)); (first | exact (add_2 (by omega) h).1.symm | (rw [(add_2 (by omega) h).2, decide_eq_true h.1]; rfl))))) .nil)) (.dd (.dd .nil)) rfl
 ·have c0 := (oF (aF dF dF) (aF dF dF)) c0
  refine .skip <| .seq <| .rs fun k10 => .mv rfl <| .mv rfl <| .bi rfl <| .as rfl <| .as rfl <| .z ?_
  refine .ret ?_
  exact fin0 (.inr rfl) (.one (svI (show (IntKind.wrap .i64 (a + b)) = (addV a b) by (first | exact (add_3 c0.1 c0.2).1.symm | exact (add_3 c0.1 c0.2).2.symm))) (.one (svI (show (0) = (addO a b) by (first | exact (add_3 c0.1 c0.2).1.symm | exact (add_3 c0.1 c0.2).2.symm))) .nil)) (.dd (.dd .nil)) rfl
theorem c_NumSub (a : Int) (b : Int) (ha : Fit a) (hb : Fit b) : Trip Tryd.prog 89 [(false, 1), (false, 1)] ([.v (.int .i64 (a))] ++ [.v (.int .i64 (b))]) [(false, 1), (false, 1)] [.v (.int .i64 (fitN (a - b))), .v (.int .i64 (fitO (a - b)))] [] := by
 refine Trip.of Tryd.func89 (by decide) (c := _) rfl rfl (Nat.le_of_ble_eq_true rfl) rfl (AftOk.nil _) <| .seq <| .rs fun k1 => .as rfl <| .as rfl <| .z <| .seq <| .seq ?_
 refine .reg (X := Unit) (fun ζ => .of [(0, .one (.d (.v (.int .i64 (a))))), (1, .one (.d (.v (.int .i64 (b))))), (23, .one (.d (.v (.bool (((decide (b < 0) && decide (a > (IntKind.wrap .i64 (9223372036854775807 + b)))) || (decide (b > 0) && decide (a < (IntKind.wrap .i64 ((-9223372036854775808) + b))))))))))] []) [⟨[1], some 6, [], []⟩, ⟨[6], some 7, [], []⟩, ⟨[7], some 8, [], []⟩, ⟨[8, 0], some 9, [], []⟩, ⟨[8, 1], some 10, [], []⟩, ⟨[8, 10], some 11, [], []⟩, ⟨[8, 9, 11], some 12, [], []⟩, ⟨[8, 12], some 13, [], []⟩, ⟨[13], some 14, [], []⟩, ⟨[14, 1], some 15, [], []⟩, ⟨[14, 15], some 16, [], []⟩, ⟨[14, 16], some 17, [], []⟩, ⟨[17, 0], some 18, [], []⟩, ⟨[17, 1], some 19, [], []⟩, ⟨[17, 19], some 20, [], []⟩, ⟨[17, 18, 20], some 21, [], []⟩, ⟨[14, 17, 21], some 22, [], []⟩, ⟨[14, 22], some 23, [], []⟩] (fun k2 => ?_) ?_
 ·skip
  refine .move (.no rfl) rfl rfl rfl rfl <| .bin (.no rfl) rfl rfl rfl rfl rfl rfl <| .moveB (.no rfl) rfl rfl rfl rfl fun b3 g1_2 => ?_
  cases b3
  ·skip
   refine .off rfl rfl rfl rfl rfl rfl rfl <| .off rfl rfl rfl rfl rfl rfl rfl <| .off rfl rfl rfl rfl rfl rfl rfl <| .off rfl rfl rfl rfl rfl rfl rfl <| .pick (.no rfl) rfl rfl rfl rfl rfl <| .move (.no rfl) rfl rfl rfl rfl <| .move (.on rfl rfl rfl rfl rfl) rfl rfl rfl rfl <| .bin (.on rfl rfl rfl rfl rfl) rfl rfl rfl rfl rfl rfl <| .moveB (.on rfl rfl rfl rfl rfl) rfl rfl rfl rfl fun b4 g1_11 => ?_
   cases b4
   ·skip
    refine .off rfl rfl rfl rfl rfl rfl rfl <| .off rfl rfl rfl rfl rfl rfl rfl <| .off rfl rfl rfl rfl rfl rfl rfl <| .off rfl rfl rfl rfl rfl rfl rfl <| .pick (.on rfl rfl rfl rfl rfl) rfl rfl rfl rfl rfl <| .pick (.no rfl) rfl rfl rfl rfl rfl ?_
    exact .fin () (.of (.cons rfl (.cons rfl (.cons (svB (show (false) = (((decide (b < 0) && decide (a > (IntKind.wrap .i64 (9223372036854775807 + b)))) || (decide (b > 0) && decide (a < (IntKind.wrap .i64 ((-9223372036854775808) + b)))))) by first | (simp only [g1_2, g1_11, Bool.true_or, Bool.false_or, Bool.true_and, Bool.false_and, Bool.not_true, Bool.not_false]; done) | (simp [g1_2, g1_11]; done) | (exfalso; simp_all; done))) .nil))) .nil)
   ·skip
    refine .move (.on rfl rfl rfl rfl rfl) rfl rfl rfl rfl <| .move (.on rfl rfl rfl rfl rfl) rfl rfl rfl rfl <| .bin (.on rfl rfl rfl rfl rfl) rfl rfl rfl rfl rfl rfl <| .bin (.on rfl rfl rfl rfl rfl) rfl rfl rfl rfl rfl rfl <| .pick (.on rfl rfl rfl rfl rfl) rfl rfl rfl rfl rfl <| .pick (.no rfl) rfl rfl rfl rfl rfl ?_
    exact .fin () (.of (.cons rfl (.cons rfl (.cons (svB (show (decide (a < (IntKind.wrap .i64 ((-9223372036854775808) + b)))) = (((decide (b < 0) && decide (a > (IntKind.wrap .i64 (9223372036854775807 + b)))) || (decide (b > 0) && decide (a < (IntKind.wrap .i64 ((-9223372036854775808) + b)))))) by first | (simp only [g1_2, g1_11, Bool.true_or, Bool.false_or, Bool.true_and, Bool.false_and, Bool.not_true, Bool.not_false]; done) | (simp [g1_2, g1_11]; done) | (exfalso; simp_all; done))) .nil))) .nil)
  ·skip
   refine .move (.on rfl rfl rfl rfl rfl) rfl rfl rfl rfl <| .move (.on rfl rfl rfl rfl rfl) rfl rfl rfl rfl <| .bin (.on rfl rfl rfl rfl rfl) rfl rfl rfl rfl rfl rfl <| .bin (.on rfl rfl rfl rfl rfl) rfl rfl rfl rfl rfl rfl <| .pick (.no rfl) rfl rfl rfl rfl rfl <| .moveB (.no rfl) rfl rfl rfl rfl fun b5 g1_8 => ?_
   cases b5
   ·skip
    refine .move (.on rfl rfl rfl rfl rfl) rfl rfl rfl rfl <| .bin (.on rfl rfl rfl rfl rfl) rfl rfl rfl rfl rfl rfl <| .moveB (.on rfl rfl rfl rfl rfl) rfl rfl rfl rfl fun b6 g1_11 => ?_
    cases b6
    ·skip
     refine .off rfl rfl rfl rfl rfl rfl rfl <| .off rfl rfl rfl rfl rfl rfl rfl <| .off rfl rfl rfl rfl rfl rfl rfl <| .off rfl rfl rfl rfl rfl rfl rfl <| .pick (.on rfl rfl rfl rfl rfl) rfl rfl rfl rfl rfl <| .pick (.no rfl) rfl rfl rfl rfl rfl ?_
     exact .fin () (.of (.cons rfl (.cons rfl (.cons (svB (show (false) = (((decide (b < 0) && decide (a > (IntKind.wrap .i64 (9223372036854775807 + b)))) || (decide (b > 0) && decide (a < (IntKind.wrap .i64 ((-9223372036854775808) + b)))))) by first | (simp only [g1_2, g1_8, g1_11, Bool.true_or, Bool.false_or, Bool.true_and, Bool.false_and, Bool.not_true, Bool.not_false]; done) | (simp [g1_2, g1_8, g1_11]; done) | (exfalso; simp_all; done))) .nil))) .nil)
    ·skip
     refine .move (.on rfl rfl rfl rfl rfl) rfl rfl rfl rfl <| .move (.on rfl rfl rfl rfl rfl) rfl rfl rfl rfl <| .bin (.on rfl rfl rfl rfl rfl) rfl rfl rfl rfl rfl rfl <| .bin (.on rfl rfl rfl rfl rfl) rfl rfl rfl rfl rfl rfl <| .pick (.on rfl rfl rfl rfl rfl) rfl rfl rfl rfl rfl <| .pick (.no rfl) rfl rfl rfl rfl rfl ?_
     exact .fin () (.of (.cons rfl (.cons rfl (.cons (svB (show (decide (a < (IntKind.wrap .i64 ((-9223372036854775808) + b)))) = (((decide (b < 0) && decide (a > (IntKind.wrap .i64 (9223372036854775807 + b)))) || (decide (b > 0) && decide (a < (IntKind.wrap .i64 ((-9223372036854775808) + b)))))) by first | (simp only [g1_2, g1_8, g1_11, Bool.true_or, Bool.false_or, Bool.true_and, Bool.false_and, Bool.not_true, Bool.not_false]; done) | (simp [g1_2, g1_8, g1_11]; done) | (exfalso; simp_all; done))) .nil))) .nil)
   ·skip
    refine .off rfl rfl rfl rfl rfl rfl rfl <| .off rfl rfl rfl rfl rfl rfl rfl <| .off rfl rfl rfl rfl rfl rfl rfl <| .off' rfl rfl rfl rfl rfl rfl <| .off' rfl rfl rfl rfl rfl rfl <| .off' rfl rfl rfl rfl rfl rfl <| .off' rfl rfl rfl rfl rfl rfl <| .off rfl rfl rfl rfl rfl rfl rfl <| .pick (.no rfl) rfl rfl rfl rfl rfl ?_
    exact .fin () (.of (.cons rfl (.cons rfl (.cons (svB (show (true) = (((decide (b < 0) && decide (a > (IntKind.wrap .i64 (9223372036854775807 + b)))) || (decide (b > 0) && decide (a < (IntKind.wrap .i64 ((-9223372036854775808) + b)))))) by first | (simp only [g1_2, g1_8, Bool.true_or, Bool.false_or, Bool.true_and, Bool.false_and, Bool.not_true, Bool.not_false]; done) | (simp [g1_2, g1_8]; done) | (exfalso; simp_all; done))) .nil))) .nil)
 intro _
 refine .cond (t := ((decide (b < 0) && decide (a > (IntKind.wrap .i64 (9223372036854775807 + b)))) || (decide (b > 0) && decide (a < (IntKind.wrap .i64 ((-9223372036854775808) + b)))))) rfl (fun c0 => ?_) (fun c0 => ?_)
 ·have c0 := (oT (aT dT dT) (aT dT dT)) c0
  refine .seq <| .rs fun k7 => .mv rfl <| .bi rfl <| .c0 (c_side (decide (b > 0))) rfl (.dd .nil) (.own [26, 0] .nil) rfl <| .as rfl <| .as rfl <| .z <| .ret ?_
  exact fin0 (.inr rfl) (.one (svI (show (0) = (fitN (a - b)) by (rcases c0 with h | h; (first | exact (sub_1 ha hb h).1.symm | (rw [(sub_1 ha hb h).2, decide_eq_false (by omega)]; rfl)); (first | exact (sub_2 ha hb h).1.symm | (rw [(sub_2 ha hb h).2, decide_eq_true h.1]; rfl))))) (.one (svI (show (bif (decide (b > 0)) then -1 else 1) = (fitO (a - b)) by (rcases c0 with h | h; (first | exact (sub_1 ha hb h).1.symm | (rw [(sub_1 ha hb h).2, decide_eq_false (by omega)]; rfl)); (first | exact (sub_2 ha hb h).1.symm | (rw [(sub_2 ha hb h).2, decide_eq_true h.1]; rfl))))) .nil)) (.dd (.dd .nil)) rfl
 ·have c0 := (oF (aF dF dF) (aF dF dF)) c0
  refine .skip <| .seq <| .rs fun k10 => .mv rfl <| .mv rfl <| .bi rfl <| .as rfl <| .as rfl <| .z ?_
  refine .ret ?_
  exact fin0 (.inr rfl) (.one (svI (show (IntKind.wrap .i64 (a - b)) = (fitN (a - b)) by (first | exact (sub_3 ha hb c0.1 c0.2).1.symm | exact (sub_3 ha hb c0.1 c0.2).2.symm))) (.one (svI (show (0) = (fitO (a - b)) by (first | exact (sub_3 ha hb c0.1 c0.2).1.symm | exact (sub_3 ha hb c0.1 c0.2).2.symm))) .nil)) (.dd (.dd .nil)) rfl
theorem c_distance (a : Int) (ha : Fit a) : Trip Tryd.prog 111 [(false, 1)] ([.v (.int .i64 (a))]) [(false, 1)] [.v (.int .u64 (absN a))] [] := by
 refine Trip.of Tryd.func111 (by decide) (c := _) rfl rfl (Nat.le_of_ble_eq_true rfl) rfl (AftOk.nil _) <| .seq <| .rs fun k1 => .as rfl <| .z <| .seq <| .seq <| .rs fun k2 => .mv rfl ?_
 refine .bi rfl <| .z ?_
 refine .cond (t := decide (a < 0)) rfl (fun c0 => ?_) (fun c0 => ?_)
 ·have c0 := of_decide_eq_true c0
  refine .seq <| .rs fun k3 => .mv rfl <| .g (fun _ τ => ⟨_, .conv (.no rfl) rfl t2 t65 rfl rfl rfl rfl rfl rfl τ⟩) <| .un rfl <| .as rfl <| .z <| .ret ?_
  exact fin0 (.inr rfl) (.one (svI (show (IntKind.wrap .u64 (0 - (IntKind.wrap .u64 a))) = (absN a) by (rw [abs_1' ha c0]))) .nil) (.dd .nil) rfl
 ·have c0 := of_decide_eq_false c0
  refine .skip <| .seq <| .rs fun k5 => .mv rfl <| .g (fun _ τ => ⟨_, .conv (.no rfl) rfl t2 t65 rfl rfl rfl rfl rfl rfl τ⟩) <| .as rfl <| .z <| .ret ?_
  exact fin0 (.inr rfl) (.one (svI (show (IntKind.wrap .u64 a) = (absN a) by (rw [abs_2 ha c0]))) .nil) (.dd .nil) rfl
theorem c_Mul64 (x : Int) (y : Int) (hx : 0 ≤ x ∧ x ≤ 9223372036854775808) (hy : 0 ≤ y ∧ y ≤ 9223372036854775808) : Trip Tryd.prog 110 [(false, 1), (false, 1)] ([.v (.int .u64 (x))] ++ [.v (.int .u64 (y))]) [(false, 1), (false, 1)] [.v (.int .u64 (mulHi x y)), .v (.int .u64 (mulLo x y))] [] := by
 refine Trip.of Tryd.func110 (by decide) (c := _) rfl rfl (Nat.le_of_ble_eq_true rfl) rfl (AftOk.nil _) <| .seq <| .rs fun k1 => .as rfl <| .as rfl <| .z <| .seq <| .rs fun k2 => .mv rfl ?_
 refine .bi rfl <| .as rfl <| .z <| .seq <| .rs fun k3 => .mv rfl <| .bi rfl <| .as rfl <| .z ?_
 refine .seq <| .rs fun k4 => .mv rfl <| .bi rfl <| .as rfl <| .z <| .seq <| .rs fun k5 => .mv rfl ?_
 refine .bi rfl <| .as rfl <| .z <| .seq <| .rs fun k6 => .mv rfl <| .mv rfl <| .bi rfl <| .as rfl ?_
 refine .z <| .seq <| .rs fun k7 => .mv rfl <| .mv rfl <| .bi rfl <| .mv rfl <| .bi rfl <| .bi rfl ?_
 refine .as rfl <| .z <| .seq <| .rs fun k8 => .mv rfl <| .bi rfl <| .as rfl <| .z <| .seq ?_
 refine .rs fun k9 => .mv rfl <| .bi rfl <| .as rfl <| .z <| .seq <| .rs fun k10 => .mv rfl <| .mv rfl ?_
 refine .mv rfl <| .bi rfl <| .bi rfl <| .as rfl <| .z <| .seq ?_
 refine .reg (X := Unit) (fun ζ => .of [(0, .one (.d (.v (.int .u64 (x))))), (1, .one (.d (.v (.int .u64 (y))))), (4, .one (.d (.v (.int .u64 (IntKind.wrap .u64 ((IntKind.wrap .u64 ((IntKind.wrap .u64 ((x.fdiv (2 ^ (min ((32 : Int)).toNat (IntKind.bits .u64)))) * (y.fdiv (2 ^ (min ((32 : Int)).toNat (IntKind.bits .u64)))))) + ((IntKind.wrap .u64 ((IntKind.wrap .u64 ((x.fdiv (2 ^ (min ((32 : Int)).toNat (IntKind.bits .u64)))) * (IntKind.wrap .u64 ((BitVec.ofInt (IntKind.bits .u64) y &&& BitVec.ofInt (IntKind.bits .u64) 4294967295).toNat : Int)))) + ((IntKind.wrap .u64 ((IntKind.wrap .u64 ((BitVec.ofInt (IntKind.bits .u64) x &&& BitVec.ofInt (IntKind.bits .u64) 4294967295).toNat : Int)) * (IntKind.wrap .u64 ((BitVec.ofInt (IntKind.bits .u64) y &&& BitVec.ofInt (IntKind.bits .u64) 4294967295).toNat : Int)))).fdiv (2 ^ (min ((32 : Int)).toNat (IntKind.bits .u64)))))).fdiv (2 ^ (min ((32 : Int)).toNat (IntKind.bits .u64)))))) + ((IntKind.wrap .u64 ((IntKind.wrap .u64 ((BitVec.ofInt (IntKind.bits .u64) (IntKind.wrap .u64 ((IntKind.wrap .u64 ((x.fdiv (2 ^ (min ((32 : Int)).toNat (IntKind.bits .u64)))) * (IntKind.wrap .u64 ((BitVec.ofInt (IntKind.bits .u64) y &&& BitVec.ofInt (IntKind.bits .u64) 4294967295).toNat : Int)))) + ((IntKind.wrap .u64 ((IntKind.wrap .u64 ((BitVec.ofInt (IntKind.bits .u64) x &&& BitVec.ofInt (IntKind.bits .u64) 4294967295).toNat : Int)) * (IntKind.wrap .u64 ((BitVec.ofInt (IntKind.bits .u64) y &&& BitVec.ofInt (IntKind.bits .u64) 4294967295).toNat : Int)))).fdiv (2 ^ (min ((32 : Int)).toNat (IntKind.bits .u64)))))) &&& BitVec.ofInt (IntKind.bits .u64) 4294967295).toNat : Int)) + (IntKind.wrap .u64 ((IntKind.wrap .u64 ((BitVec.ofInt (IntKind.bits .u64) x &&& BitVec.ofInt (IntKind.bits .u64) 4294967295).toNat : Int)) * (y.fdiv (2 ^ (min ((32 : Int)).toNat (IntKind.bits .u64)))))))).fdiv (2 ^ (min ((32 : Int)).toNat (IntKind.bits .u64))))))))))] []) [⟨[7], some 40, [], []⟩, ⟨[9], some 41, [], []⟩, ⟨[40, 41], some 42, [], []⟩, ⟨[13], some 43, [], []⟩, ⟨[42, 43], some 44, [], []⟩, ⟨[12], some 45, [], []⟩, ⟨[45], some 46, [], []⟩, ⟨[44, 46], some 47, [], []⟩, ⟨[47], some 4, [], []⟩] (fun k11 => ?_) ?_
 ·skip
  refine .move (.no rfl) rfl rfl rfl rfl <| .move (.no rfl) rfl rfl rfl rfl <| .bin (.no rfl) rfl rfl rfl rfl rfl rfl <| .move (.no rfl) rfl rfl rfl rfl <| .bin (.no rfl) rfl rfl rfl rfl rfl rfl <| .move (.no rfl) rfl rfl rfl rfl <| .bin (.no rfl) rfl rfl rfl rfl rfl rfl <| .bin (.no rfl) rfl rfl rfl rfl rfl rfl <| .assign (.no rfl) rfl rfl rfl rfl ?_
  exact .fin () (.of (.r rfl) .nil)
 intro _
 refine .seq <| .rs fun k12 => .mv rfl <| .mv rfl <| .bi rfl <| .as rfl <| .z <| .ret ?_
 exact fin0 (.inr rfl) (.one (svI (show (IntKind.wrap .u64 ((IntKind.wrap .u64 ((IntKind.wrap .u64 ((x.fdiv (2 ^ (min ((32 : Int)).toNat (IntKind.bits .u64)))) * (y.fdiv (2 ^ (min ((32 : Int)).toNat (IntKind.bits .u64)))))) + ((IntKind.wrap .u64 ((IntKind.wrap .u64 ((x.fdiv (2 ^ (min ((32 : Int)).toNat (IntKind.bits .u64)))) * (IntKind.wrap .u64 ((BitVec.ofInt (IntKind.bits .u64) y &&& BitVec.ofInt (IntKind.bits .u64) 4294967295).toNat : Int)))) + ((IntKind.wrap .u64 ((IntKind.wrap .u64 ((BitVec.ofInt (IntKind.bits .u64) x &&& BitVec.ofInt (IntKind.bits .u64) 4294967295).toNat : Int)) * (IntKind.wrap .u64 ((BitVec.ofInt (IntKind.bits .u64) y &&& BitVec.ofInt (IntKind.bits .u64) 4294967295).toNat : Int)))).fdiv (2 ^ (min ((32 : Int)).toNat (IntKind.bits .u64)))))).fdiv (2 ^ (min ((32 : Int)).toNat (IntKind.bits .u64)))))) + ((IntKind.wrap .u64 ((IntKind.wrap .u64 ((BitVec.ofInt (IntKind.bits .u64) (IntKind.wrap .u64 ((IntKind.wrap .u64 ((x.fdiv (2 ^ (min ((32 : Int)).toNat (IntKind.bits .u64)))) * (IntKind.wrap .u64 ((BitVec.ofInt (IntKind.bits .u64) y &&& BitVec.ofInt (IntKind.bits .u64) 4294967295).toNat : Int)))) + ((IntKind.wrap .u64 ((IntKind.wrap .u64 ((BitVec.ofInt (IntKind.bits .u64) x &&& BitVec.ofInt (IntKind.bits .u64) 4294967295).toNat : Int)) * (IntKind.wrap .u64 ((BitVec.ofInt (IntKind.bits .u64) y &&& BitVec.ofInt (IntKind.bits .u64) 4294967295).toNat : Int)))).fdiv (2 ^ (min ((32 : Int)).toNat (IntKind.bits .u64)))))) &&& BitVec.ofInt (IntKind.bits .u64) 4294967295).toNat : Int)) + (IntKind.wrap .u64 ((IntKind.wrap .u64 ((BitVec.ofInt (IntKind.bits .u64) x &&& BitVec.ofInt (IntKind.bits .u64) 4294967295).toNat : Int)) * (y.fdiv (2 ^ (min ((32 : Int)).toNat (IntKind.bits .u64)))))))).fdiv (2 ^ (min ((32 : Int)).toNat (IntKind.bits .u64)))))) = (mulHi x y) by (first | exact mul64_hi9 hx hy | exact mul64_lo9 hx hy))) (.one (svI (show (IntKind.wrap .u64 (x * y)) = (mulLo x y) by (first | exact mul64_hi9 hx hy | exact mul64_lo9 hx hy))) .nil)) (.dd (.dd .nil)) rfl
theorem c_NumMul (a : Int) (b : Int) (ha : Fit a) (hb : Fit b) : Trip Tryd.prog 91 [(false, 1), (false, 1)] ([.v (.int .i64 (a))] ++ [.v (.int .i64 (b))]) [(false, 1), (false, 1)] [.v (.int .i64 (fitN (a * b))), .v (.int .i64 (fitO (a * b)))] [] := by
 refine Trip.of Tryd.func91 (by decide) (c := _) rfl rfl (Nat.le_of_ble_eq_true rfl) rfl (AftOk.nil _) <| .seq <| .rs fun k1 => .as rfl <| .as rfl <| .z <| .seq <| .rs fun k2 => .mv rfl ?_
 refine .c0 (c_distance a (by first | assumption | exact absN_bnd ha | exact absN_bnd hb)) rfl (.dd .nil) (.own [12, 0] .nil) rfl <| .mv rfl <| .c0 (c_distance b (by first | assumption | exact absN_bnd ha | exact absN_bnd hb)) rfl (.dd .nil) (.own [14, 0] .nil) rfl <| .c0 (c_Mul64 (absN a) (absN b) (by first | assumption | exact absN_bnd ha | exact absN_bnd hb) (by first | assumption | exact absN_bnd ha | exact absN_bnd hb)) rfl (.dd (.dd .nil)) (.own [15, 0] (.own [15, 1] .nil)) rfl <| .g (fun _ τ => ⟨_, .move (.no rfl) rfl rfl rfl rfl τ⟩) <| .g (fun _ τ => ⟨_, .extract (.no rfl) rfl rfl rfl rfl rfl τ⟩) <| .g (fun _ τ => ⟨_, .extract (.no rfl) rfl rfl rfl rfl rfl τ⟩) <| .as rfl <| .as rfl ?_
 refine .z <| .seq <| .rs fun k3 => .mv rfl <| .bi rfl <| .mv rfl <| .bi rfl <| .g (fun _ τ => ⟨_, .neB (.no rfl) rfl t4 rfl rfl rfl rfl rfl τ⟩) <| .as rfl ?_
 refine .z <| .seq <| .rs fun k4 => .as rfl <| .z <| .seq <| .seq <| .rs fun k5 => .mv rfl ?_
 refine .z ?_
 refine .cond (t := (decide (a < 0)) != (decide (b < 0))) rfl (fun c0 => ?_) (fun c0 => ?_)
 ·have c0 := (by simpa using c0 : ¬ ((decide (a < 0)) = (decide (b < 0))))
  refine .rs fun k6 => .mv rfl <| .bi rfl <| .as rfl <| .z <| .seq <| .block <| .seq ?_
  refine .reg (X := Unit) (fun ζ => .of [(7, .one (.d (.v (.int .u64 (mulLo (absN a) (absN b)))))), (8, .one (.d (.v (.bool ((decide (a < 0)) != (decide (b < 0))))))), (26, .one (.d (.v (.bool ((decide ((mulHi (absN a) (absN b)) > 0) || decide ((mulLo (absN a) (absN b)) > (IntKind.wrap .u64 (9223372036854775807 + 1)))))))))] []) [⟨[6], some 27, [], []⟩, ⟨[27], some 28, [], []⟩, ⟨[28], some 29, [], []⟩, ⟨[29, 7], some 30, [], []⟩, ⟨[29, 9], some 31, [], []⟩, ⟨[29, 30, 31], some 32, [], []⟩, ⟨[29, 32], some 33, [], []⟩, ⟨[33], some 26, [], []⟩] (fun k7 => ?_) ?_
  ·skip
   refine .move (.no rfl) rfl rfl rfl rfl <| .bin (.no rfl) rfl rfl rfl rfl rfl rfl <| .moveB (.no rfl) rfl rfl rfl rfl fun b8 g6_2 => ?_
   cases b8
   ·skip
    refine .move (.on rfl rfl rfl rfl rfl) rfl rfl rfl rfl <| .move (.on rfl rfl rfl rfl rfl) rfl rfl rfl rfl <| .bin (.on rfl rfl rfl rfl rfl) rfl rfl rfl rfl rfl rfl <| .pick (.no rfl) rfl rfl rfl rfl rfl <| .assign (.no rfl) rfl rfl rfl rfl ?_
    exact .fin () (.of (.cons rfl (.cons rfl (.cons (svB (show (decide ((mulLo (absN a) (absN b)) > (IntKind.wrap .u64 (9223372036854775807 + 1)))) = ((decide ((mulHi (absN a) (absN b)) > 0) || decide ((mulLo (absN a) (absN b)) > (IntKind.wrap .u64 (9223372036854775807 + 1))))) by first | (simp only [g6_2, Bool.true_or, Bool.false_or, Bool.true_and, Bool.false_and, Bool.not_true, Bool.not_false]; done) | (simp [g6_2]; done) | (exfalso; simp_all; done))) .nil))) .nil)
   ·skip
    refine .off rfl rfl rfl rfl rfl rfl rfl <| .off rfl rfl rfl rfl rfl rfl rfl <| .off rfl rfl rfl rfl rfl rfl rfl <| .pick (.no rfl) rfl rfl rfl rfl rfl <| .assign (.no rfl) rfl rfl rfl rfl ?_
    exact .fin () (.of (.cons rfl (.cons rfl (.cons (svB (show (true) = ((decide ((mulHi (absN a) (absN b)) > 0) || decide ((mulLo (absN a) (absN b)) > (IntKind.wrap .u64 (9223372036854775807 + 1))))) by first | (simp only [g6_2, Bool.true_or, Bool.false_or, Bool.true_and, Bool.false_and, Bool.not_true, Bool.not_false]; done) | (simp [g6_2]; done) | (exfalso; simp_all; done))) .nil))) .nil)
  intro _
  refine .cond (t := (decide ((mulHi (absN a) (absN b)) > 0) || decide ((mulLo (absN a) (absN b)) > (IntKind.wrap .u64 (9223372036854775807 + 1))))) rfl (fun c1 => ?_) (fun c1 => ?_)
  ·have c1 := (oT dT dT) c1
   refine .seq <| .rs fun k9 => .mv rfl <| .c0 (c_side ((decide (a < 0)) != (decide (b < 0)))) rfl (.dd .nil) (.own [35, 0] .nil) rfl <| .as rfl <| .as rfl <| .z <| .ret ?_
   exact fin0 (.inr rfl) (.one (svI (show (0) = (fitN (a * b)) by (first | exact (imul_0 ha hb c0 c1).1.symm | exact (imul_0 ha hb c0 c1).2.symm))) (.one (svI (show (bif ((decide (a < 0)) != (decide (b < 0))) then -1 else 1) = (fitO (a * b)) by (first | exact (imul_0 ha hb c0 c1).1.symm | exact (imul_0 ha hb c0 c1).2.symm))) .nil)) (.dd (.dd .nil)) rfl
  ·have c1 := (oF dF dF) c1
   refine .seq <| .rs fun k12 => .mv rfl <| .as rfl <| .z ?_
   refine .cond (t := (decide (a < 0)) != (decide (b < 0))) rfl (fun c2 => ?_) (fun c2 => ?_)
   ·have c2 := (by simpa using c2 : ¬ ((decide (a < 0)) = (decide (b < 0))))
    refine .seq <| .rs fun k13 => .mv rfl <| .un rfl <| .g (fun _ τ => ⟨_, .conv (.no rfl) rfl t65 t2 rfl rfl rfl rfl rfl rfl τ⟩) <| .as rfl <| .as rfl <| .z <| .ret ?_
    exact fin0 (.inr rfl) (.one (svI (show (IntKind.wrap .i64 (IntKind.wrap .u64 (0 - (mulLo (absN a) (absN b))))) = (fitN (a * b)) by (first | exact (imul_1 ha hb c0 c1).1.symm | exact (imul_1 ha hb c0 c1).2.symm))) (.one (svI (show (0) = (fitO (a * b)) by (first | exact (imul_1 ha hb c0 c1).1.symm | exact (imul_1 ha hb c0 c1).2.symm))) .nil)) (.dd (.dd .nil)) rfl
   ·have c2 := (by simpa using c2 : (decide (a < 0)) = (decide (b < 0)))
    refine .skip <| .seq <| .rs fun k16 => .mv rfl <| .g (fun _ τ => ⟨_, .conv (.no rfl) rfl t65 t2 rfl rfl rfl rfl rfl rfl τ⟩) <| .as rfl <| .as rfl <| .z <| .ret ?_
    exact fin0 (.inr rfl) (.one (svI (show (IntKind.wrap .i64 (mulLo (absN a) (absN b))) = (fitN (a * b)) by exact absurd c2 c0)) (.one (svI (show (0) = (fitO (a * b)) by exact absurd c2 c0)) .nil)) (.dd (.dd .nil)) rfl
 ·have c0 := (by simpa using c0 : (decide (a < 0)) = (decide (b < 0)))
  refine .skip <| .seq <| .block <| .seq ?_
  refine .reg (X := Unit) (fun ζ => .of [(7, .one (.d (.v (.int .u64 (mulLo (absN a) (absN b)))))), (8, .one (.d (.v (.bool ((decide (a < 0)) != (decide (b < 0))))))), (26, .one (.d (.v (.bool ((decide ((mulHi (absN a) (absN b)) > 0) || decide ((mulLo (absN a) (absN b)) > 9223372036854775807)))))))] []) [⟨[6], some 27, [], []⟩, ⟨[27], some 28, [], []⟩, ⟨[28], some 29, [], []⟩, ⟨[29, 7], some 30, [], []⟩, ⟨[29, 9], some 31, [], []⟩, ⟨[29, 30, 31], some 32, [], []⟩, ⟨[29, 32], some 33, [], []⟩, ⟨[33], some 26, [], []⟩] (fun k19 => ?_) ?_
  ·skip
   refine .move (.no rfl) rfl rfl rfl rfl <| .bin (.no rfl) rfl rfl rfl rfl rfl rfl <| .moveB (.no rfl) rfl rfl rfl rfl fun b20 g6_2 => ?_
   cases b20
   ·skip
    refine .move (.on rfl rfl rfl rfl rfl) rfl rfl rfl rfl <| .move (.on rfl rfl rfl rfl rfl) rfl rfl rfl rfl <| .bin (.on rfl rfl rfl rfl rfl) rfl rfl rfl rfl rfl rfl <| .pick (.no rfl) rfl rfl rfl rfl rfl <| .assign (.no rfl) rfl rfl rfl rfl ?_
    exact .fin () (.of (.cons rfl (.cons rfl (.cons (svB (show (decide ((mulLo (absN a) (absN b)) > 9223372036854775807)) = ((decide ((mulHi (absN a) (absN b)) > 0) || decide ((mulLo (absN a) (absN b)) > 9223372036854775807))) by first | (simp only [g6_2, Bool.true_or, Bool.false_or, Bool.true_and, Bool.false_and, Bool.not_true, Bool.not_false]; done) | (simp [g6_2]; done) | (exfalso; simp_all; done))) .nil))) .nil)
   ·skip
    refine .off rfl rfl rfl rfl rfl rfl rfl <| .off rfl rfl rfl rfl rfl rfl rfl <| .off rfl rfl rfl rfl rfl rfl rfl <| .pick (.no rfl) rfl rfl rfl rfl rfl <| .assign (.no rfl) rfl rfl rfl rfl ?_
    exact .fin () (.of (.cons rfl (.cons rfl (.cons (svB (show (true) = ((decide ((mulHi (absN a) (absN b)) > 0) || decide ((mulLo (absN a) (absN b)) > 9223372036854775807))) by first | (simp only [g6_2, Bool.true_or, Bool.false_or, Bool.true_and, Bool.false_and, Bool.not_true, Bool.not_false]; done) | (simp [g6_2]; done) | (exfalso; simp_all; done))) .nil))) .nil)
  intro _
  refine .cond (t := (decide ((mulHi (absN a) (absN b)) > 0) || decide ((mulLo (absN a) (absN b)) > 9223372036854775807))) rfl (fun c1 => ?_) (fun c1 => ?_)
  ·have c1 := (oT dT dT) c1
   refine .seq <| .rs fun k21 => .mv rfl <| .c0 (c_side ((decide (a < 0)) != (decide (b < 0)))) rfl (.dd .nil) (.own [35, 0] .nil) rfl <| .as rfl <| .as rfl <| .z <| .ret ?_
   exact fin0 (.inr rfl) (.one (svI (show (0) = (fitN (a * b)) by (first | exact (imul_3 ha hb c0 c1).1.symm | exact (imul_3 ha hb c0 c1).2.symm))) (.one (svI (show (bif ((decide (a < 0)) != (decide (b < 0))) then -1 else 1) = (fitO (a * b)) by (first | exact (imul_3 ha hb c0 c1).1.symm | exact (imul_3 ha hb c0 c1).2.symm))) .nil)) (.dd (.dd .nil)) rfl
  ·have c1 := (oF dF dF) c1
   refine .seq <| .rs fun k24 => .mv rfl <| .as rfl <| .z ?_
   refine .cond (t := (decide (a < 0)) != (decide (b < 0))) rfl (fun c2 => ?_) (fun c2 => ?_)
   ·have c2 := (by simpa using c2 : ¬ ((decide (a < 0)) = (decide (b < 0))))
    refine .seq <| .rs fun k25 => .mv rfl <| .un rfl <| .g (fun _ τ => ⟨_, .conv (.no rfl) rfl t65 t2 rfl rfl rfl rfl rfl rfl τ⟩) <| .as rfl <| .as rfl <| .z <| .ret ?_
    exact fin0 (.inr rfl) (.one (svI (show (IntKind.wrap .i64 (IntKind.wrap .u64 (0 - (mulLo (absN a) (absN b))))) = (fitN (a * b)) by exact absurd c0 c2)) (.one (svI (show (0) = (fitO (a * b)) by exact absurd c0 c2)) .nil)) (.dd (.dd .nil)) rfl
   ·have c2 := (by simpa using c2 : (decide (a < 0)) = (decide (b < 0)))
    refine .skip <| .seq <| .rs fun k28 => .mv rfl <| .g (fun _ τ => ⟨_, .conv (.no rfl) rfl t65 t2 rfl rfl rfl rfl rfl rfl τ⟩) <| .as rfl <| .as rfl <| .z <| .ret ?_
    exact fin0 (.inr rfl) (.one (svI (show (IntKind.wrap .i64 (mulLo (absN a) (absN b))) = (fitN (a * b)) by (first | exact (imul_5 ha hb c0 c1).1.symm | exact (imul_5 ha hb c0 c1).2.symm))) (.one (svI (show (0) = (fitO (a * b)) by (first | exact (imul_5 ha hb c0 c1).1.symm | exact (imul_5 ha hb c0 c1).2.symm))) .nil)) (.dd (.dd .nil)) rfl
theorem c_NumQuo (a : Int) (b : Int) (ha : Fit a) (hb : Fit b) : Trip Tryd.prog 93 [(false, 1), (false, 1)] ([.v (.int .i64 (a))] ++ [.v (.int .i64 (b))]) [(false, 1), (false, 1)] [.v (.int .i64 (quoN a b)), .v (.int .i64 (quoO a b))] [] := by
 refine Trip.of Tryd.func93 (by decide) (c := _) rfl rfl (Nat.le_of_ble_eq_true rfl) rfl (AftOk.nil _) <| .seq <| .rs fun k1 => .as rfl <| .as rfl <| .z <| .seq <| .block <| .seq ?_
 refine .rs fun k2 => .mv rfl <| .bi rfl <| .as rfl <| .z ?_
 refine .cond (t := b == 0) rfl (fun c0 => ?_) (fun c0 => ?_)
 ·have c0 := (by simpa using c0 : b = 0)
  refine .seq <| .rs fun k3 => .as rfl <| .as rfl <| .z <| .ret ?_
  exact fin0 (.inr rfl) (.one (svI (show (0) = (quoN a b) by (first | (unfold quoN; rw [if_pos c0]) | (unfold quoO; rw [if_pos c0])))) (.one (svI (show (0) = (quoO a b) by (first | (unfold quoN; rw [if_pos c0]) | (unfold quoO; rw [if_pos c0])))) .nil)) (.dd (.dd .nil)) rfl
 ·have c0 := (by simpa using c0 : ¬ (b = 0))
  refine .seq ?_
  refine .reg (X := Unit) (fun ζ => .of [(0, .one (.d (.v (.int .i64 (a))))), (1, .one (.d (.v (.int .i64 (b))))), (9, .one (.d (.v (.bool ((a == (-9223372036854775808) && b == (-1)))))))] []) [⟨[0], some 10, [], []⟩, ⟨[10], some 11, [], []⟩, ⟨[11], some 12, [], []⟩, ⟨[12, 1], some 13, [], []⟩, ⟨[12, 13], some 14, [], []⟩, ⟨[12, 14], some 15, [], []⟩, ⟨[15], some 9, [], []⟩] (fun k6 => ?_) ?_
  ·skip
   refine .move (.no rfl) rfl rfl rfl rfl <| .bin (.no rfl) rfl rfl rfl rfl rfl rfl <| .moveB (.no rfl) rfl rfl rfl rfl fun b7 g3_2 => ?_
   cases b7
   ·skip
    refine .off rfl rfl rfl rfl rfl rfl rfl <| .off rfl rfl rfl rfl rfl rfl rfl <| .pick (.no rfl) rfl rfl rfl rfl rfl <| .assign (.no rfl) rfl rfl rfl rfl ?_
    exact .fin () (.of (.cons rfl (.cons rfl (.cons (svB (show (false) = ((a == (-9223372036854775808) && b == (-1))) by first | (simp only [g3_2, Bool.true_or, Bool.false_or, Bool.true_and, Bool.false_and, Bool.not_true, Bool.not_false]; done) | (simp [g3_2]; done) | (exfalso; simp_all; done))) .nil))) .nil)
   ·skip
    refine .move (.on rfl rfl rfl rfl rfl) rfl rfl rfl rfl <| .bin (.on rfl rfl rfl rfl rfl) rfl rfl rfl rfl rfl rfl <| .pick (.no rfl) rfl rfl rfl rfl rfl <| .assign (.no rfl) rfl rfl rfl rfl ?_
    exact .fin () (.of (.cons rfl (.cons rfl (.cons (svB (show (b == (-1)) = ((a == (-9223372036854775808) && b == (-1))) by first | (simp only [g3_2, Bool.true_or, Bool.false_or, Bool.true_and, Bool.false_and, Bool.not_true, Bool.not_false]; done) | (simp [g3_2]; done) | (exfalso; simp_all; done))) .nil))) .nil)
  intro _
  refine .cond (t := (a == (-9223372036854775808) && b == (-1))) rfl (fun c1 => ?_) (fun c1 => ?_)
  ·have c1 := (aT eT eT) c1
   refine .seq <| .rs fun k8 => .as rfl <| .as rfl <| .z <| .ret ?_
   exact fin0 (.inr rfl) (.one (svI (show (0) = (quoN a b) by (first | (rw [(quo_neg ha c1.2).1, c1.1]; rfl) | (rw [(quo_neg ha c1.2).2, c1.1]; rfl)))) (.one (svI (show (1) = (quoO a b) by (first | (rw [(quo_neg ha c1.2).1, c1.1]; rfl) | (rw [(quo_neg ha c1.2).2, c1.1]; rfl)))) .nil)) (.dd (.dd .nil)) rfl
  ·have c1 := (aF eF eF) c1
   refine .skip <| .seq <| .rs fun k11 => .mv rfl <| .mv rfl <| .g (fun _ τ => ⟨_, .quoRem (.no rfl) rfl (.inl ⟨rfl, rfl⟩) rfl rfl rfl (ne_beq (by omega)) rfl τ⟩) <| .as rfl <| .as rfl <| .z ?_
   refine .ret ?_
   exact fin0 (.inr rfl) (.one (svI (show (IntKind.wrap .i64 (Int.tdiv a b)) = (quoN a b) by (first | exact (quo_end ha c0 c1).1.symm | exact (quo_end ha c0 c1).2.symm))) (.one (svI (show (0) = (quoO a b) by (first | exact (quo_end ha c0 c1).1.symm | exact (quo_end ha c0 c1).2.symm))) .nil)) (.dd (.dd .nil)) rfl
theorem c_NumRem (a : Int) (b : Int) : Trip Tryd.prog 92 [(false, 1), (false, 1)] ([.v (.int .i64 (a))] ++ [.v (.int .i64 (b))]) [(false, 1)] [.v (.int .i64 (remN a b))] [] := by
 refine Trip.of Tryd.func92 (by decide) (c := _) rfl rfl (Nat.le_of_ble_eq_true rfl) rfl (AftOk.nil _) <| .seq <| .rs fun k1 => .as rfl <| .z <| .seq <| .seq ?_
 refine .reg (X := Unit) (fun ζ => .of [(0, .one (.d (.v (.int .i64 (a))))), (1, .one (.d (.v (.int .i64 (b))))), (10, .one (.d (.v (.bool ((b == 0 || b == (-1)))))))] []) [⟨[1], some 5, [], []⟩, ⟨[5], some 6, [], []⟩, ⟨[6], some 7, [], []⟩, ⟨[7, 1], some 8, [], []⟩, ⟨[7, 8], some 9, [], []⟩, ⟨[7, 9], some 10, [], []⟩] (fun k2 => ?_) ?_
 ·skip
  refine .move (.no rfl) rfl rfl rfl rfl <| .bin (.no rfl) rfl rfl rfl rfl rfl rfl <| .moveB (.no rfl) rfl rfl rfl rfl fun b3 g1_2 => ?_
  cases b3
  ·skip
   refine .move (.on rfl rfl rfl rfl rfl) rfl rfl rfl rfl <| .bin (.on rfl rfl rfl rfl rfl) rfl rfl rfl rfl rfl rfl <| .pick (.no rfl) rfl rfl rfl rfl rfl ?_
   exact .fin () (.of (.cons rfl (.cons rfl (.cons (svB (show (b == (-1)) = ((b == 0 || b == (-1))) by first | (simp only [g1_2, Bool.true_or, Bool.false_or, Bool.true_and, Bool.false_and, Bool.not_true, Bool.not_false]; done) | (simp [g1_2]; done) | (exfalso; simp_all; done))) .nil))) .nil)
  ·skip
   refine .off rfl rfl rfl rfl rfl rfl rfl <| .off rfl rfl rfl rfl rfl rfl rfl <| .pick (.no rfl) rfl rfl rfl rfl rfl ?_
   exact .fin () (.of (.cons rfl (.cons rfl (.cons (svB (show (true) = ((b == 0 || b == (-1))) by first | (simp only [g1_2, Bool.true_or, Bool.false_or, Bool.true_and, Bool.false_and, Bool.not_true, Bool.not_false]; done) | (simp [g1_2]; done) | (exfalso; simp_all; done))) .nil))) .nil)
 intro _
 refine .cond (t := (b == 0 || b == (-1))) rfl (fun c0 => ?_) (fun c0 => ?_)
 ·have c0 := (oT eT eT) c0
  refine .seq <| .rs fun k4 => .as rfl <| .z <| .ret ?_
  exact fin0 (.inr rfl) (.one (svI (show (0) = (remN a b) by (rw [rem_no c0]))) .nil) (.dd .nil) rfl
 ·have c0 := (oF eF eF) c0
  refine .skip <| .seq <| .rs fun k6 => .mv rfl <| .mv rfl <| .g (fun _ τ => ⟨_, .quoRem (.no rfl) rfl (.inr ⟨rfl, rfl⟩) rfl rfl rfl (ne_beq (by omega)) rfl τ⟩) <| .as rfl <| .z <| .ret ?_
  exact fin0 (.inr rfl) (.one (svI (show (Int.tmod a b) = (remN a b) by (rw [rem_end c0.1]))) .nil) (.dd .nil) rfl
end Go.Proofs

namespace Go.Proofs
open Go Go.Proofs Go.Ev

theorem c_fitting (n : Int) (w : Int) : Trip Tryd.prog 88 [(false, 1), (false, 1)] ([.v (.int .i64 (n))] ++ [.v (.int .i64 (w))]) [(false, 1), (false, 1)] [.v (.int .i64 (ftN n w)), .v (.int .i64 (ftC w))] [] := by
 refine Trip.of Tryd.func88 (by decide) (c := _) rfl rfl (Nat.le_of_ble_eq_true rfl) rfl (AftOk.nil _) <| .seq <| .rs fun k1 => .as rfl <| .as rfl <| .z <| .seq <| .seq <| .rs fun k2 => ?_
 refine .mv rfl <| .bi rfl <| .z ?_
 refine .cond (t := w != 0) rfl (fun c0 => ?_) (fun c0 => ?_)
 ·have c0 := (by simpa using c0 : ¬ (w = 0))
  refine .seq <| .rs fun k3 => .as rfl <| .as rfl <| .z <| .ret ?_
  exact fin0 (.inr rfl) (.one (svI (show (0) = (ftN n w) by (first | (unfold ftN; rw [if_neg c0]) | (unfold ftC; rw [if_neg c0])))) (.one (svI (show (6) = (ftC w) by (first | (unfold ftN; rw [if_neg c0]) | (unfold ftC; rw [if_neg c0])))) .nil)) (.dd (.dd .nil)) rfl
 ·have c0 := (by simpa using c0 : w = 0)
  refine .skip <| .seq <| .rs fun k6 => .mv rfl <| .as rfl <| .as rfl <| .z <| .ret ?_
  exact fin0 (.inr rfl) (.one (svI (show (n) = (ftN n w) by (first | (unfold ftN; rw [if_pos c0]) | (unfold ftC; rw [if_pos c0])))) (.one (svI (show (0) = (ftC w) by (first | (unfold ftN; rw [if_pos c0]) | (unfold ftC; rw [if_pos c0])))) .nil)) (.dd (.dd .nil)) rfl
theorem c_compares (op : Int) (a : Int) (b : Int) : Trip Tryd.prog 94 [(false, 1), (false, 1), (false, 1)] ([.v (.int .i64 (op))] ++ [.v (.int .i64 (a))] ++ [.v (.int .i64 (b))]) [(false, 1)] [.v (.bool (cmpB op a b))] [] := by
 refine Trip.of Tryd.func94 (by decide) (c := _) rfl rfl (Nat.le_of_ble_eq_true rfl) rfl (AftOk.nil _) <| .seq <| .rs fun k1 => .as rfl <| .z <| .seq <| .seq <| .rs fun k2 => .mv rfl ?_
 refine .z <| .block <| .seq <| .rs fun k3 => .bi rfl <| .as rfl <| .z ?_
 refine .cond (t := op == 13) rfl (fun c0 => ?_) (fun c0 => ?_)
 ·have c0 := (by simpa using c0 : op = 13)
  refine .seq <| .rs fun k4 => .mv rfl <| .mv rfl <| .bi rfl <| .as rfl <| .z <| .ret ?_
  exact fin0 (.inr rfl) (.one (svB (show (decide (a < b)) = (cmpB op a b) by (unfold cmpB; first | (rw [if_pos c0]; done) | (rw [if_neg c0, if_pos c1]; done) | (rw [if_neg c0, if_neg c1, if_pos c2]; done) | (rw [if_neg c0, if_neg c1, if_neg c2, if_pos c3]; done) | (rw [if_neg c0, if_neg c1, if_neg c2, if_neg c3, if_pos c4]; done) | (rw [if_neg c0, if_neg c1, if_neg c2, if_neg c3, if_neg c4]; done)))) .nil) (.dd .nil) rfl
 ·have c0 := (by simpa using c0 : ¬ (op = 13))
  refine .seq <| .rs fun k6 => .bi rfl <| .as rfl <| .z ?_
  refine .cond (t := op == 14) rfl (fun c1 => ?_) (fun c1 => ?_)
  ·have c1 := (by simpa using c1 : op = 14)
   refine .seq <| .rs fun k7 => .mv rfl <| .mv rfl <| .bi rfl <| .as rfl <| .z <| .ret ?_
   exact fin0 (.inr rfl) (.one (svB (show (decide (a ≤ b)) = (cmpB op a b) by (unfold cmpB; first | (rw [if_pos c0]; done) | (rw [if_neg c0, if_pos c1]; done) | (rw [if_neg c0, if_neg c1, if_pos c2]; done) | (rw [if_neg c0, if_neg c1, if_neg c2, if_pos c3]; done) | (rw [if_neg c0, if_neg c1, if_neg c2, if_neg c3, if_pos c4]; done) | (rw [if_neg c0, if_neg c1, if_neg c2, if_neg c3, if_neg c4]; done)))) .nil) (.dd .nil) rfl
  ·have c1 := (by simpa using c1 : ¬ (op = 14))
   refine .seq <| .rs fun k9 => .bi rfl <| .as rfl <| .z ?_
   refine .cond (t := op == 15) rfl (fun c2 => ?_) (fun c2 => ?_)
   ·have c2 := (by simpa using c2 : op = 15)
    refine .seq <| .rs fun k10 => .mv rfl <| .mv rfl <| .bi rfl <| .as rfl <| .z <| .ret ?_
    exact fin0 (.inr rfl) (.one (svB (show (a == b) = (cmpB op a b) by (unfold cmpB; first | (rw [if_pos c0]; done) | (rw [if_neg c0, if_pos c1]; done) | (rw [if_neg c0, if_neg c1, if_pos c2]; done) | (rw [if_neg c0, if_neg c1, if_neg c2, if_pos c3]; done) | (rw [if_neg c0, if_neg c1, if_neg c2, if_neg c3, if_pos c4]; done) | (rw [if_neg c0, if_neg c1, if_neg c2, if_neg c3, if_neg c4]; done)))) .nil) (.dd .nil) rfl
   ·have c2 := (by simpa using c2 : ¬ (op = 15))
    refine .seq <| .rs fun k12 => .bi rfl <| .as rfl <| .z ?_
    refine .cond (t := op == 16) rfl (fun c3 => ?_) (fun c3 => ?_)
    ·have c3 := (by simpa using c3 : op = 16)
     refine .seq <| .rs fun k13 => .mv rfl <| .mv rfl <| .bi rfl <| .as rfl <| .z <| .ret ?_
     exact fin0 (.inr rfl) (.one (svB (show (a != b) = (cmpB op a b) by (unfold cmpB; first | (rw [if_pos c0]; done) | (rw [if_neg c0, if_pos c1]; done) | (rw [if_neg c0, if_neg c1, if_pos c2]; done) | (rw [if_neg c0, if_neg c1, if_neg c2, if_pos c3]; done) | (rw [if_neg c0, if_neg c1, if_neg c2, if_neg c3, if_pos c4]; done) | (rw [if_neg c0, if_neg c1, if_neg c2, if_neg c3, if_neg c4]; done)))) .nil) (.dd .nil) rfl
    ·have c3 := (by simpa using c3 : ¬ (op = 16))
     refine .seq <| .rs fun k15 => .bi rfl <| .as rfl <| .z ?_
     refine .cond (t := op == 17) rfl (fun c4 => ?_) (fun c4 => ?_)
     ·have c4 := (by simpa using c4 : op = 17)
      refine .seq <| .rs fun k16 => .mv rfl <| .mv rfl <| .bi rfl <| .as rfl <| .z <| .ret ?_
      exact fin0 (.inr rfl) (.one (svB (show (decide (a > b)) = (cmpB op a b) by (unfold cmpB; first | (rw [if_pos c0]; done) | (rw [if_neg c0, if_pos c1]; done) | (rw [if_neg c0, if_neg c1, if_pos c2]; done) | (rw [if_neg c0, if_neg c1, if_neg c2, if_pos c3]; done) | (rw [if_neg c0, if_neg c1, if_neg c2, if_neg c3, if_pos c4]; done) | (rw [if_neg c0, if_neg c1, if_neg c2, if_neg c3, if_neg c4]; done)))) .nil) (.dd .nil) rfl
     ·have c4 := (by simpa using c4 : ¬ (op = 17))
      refine .skip <| .seq <| .rs fun k18 => .mv rfl <| .mv rfl <| .bi rfl <| .as rfl <| .z <| .ret ?_
      exact fin0 (.inr rfl) (.one (svB (show (decide (a ≥ b)) = (cmpB op a b) by (unfold cmpB; first | (rw [if_pos c0]; done) | (rw [if_neg c0, if_pos c1]; done) | (rw [if_neg c0, if_neg c1, if_pos c2]; done) | (rw [if_neg c0, if_neg c1, if_neg c2, if_pos c3]; done) | (rw [if_neg c0, if_neg c1, if_neg c2, if_neg c3, if_pos c4]; done) | (rw [if_neg c0, if_neg c1, if_neg c2, if_neg c3, if_neg c4]; done)))) .nil) (.dd .nil) rfl
theorem c_apply (op : Int) (a : Int) (b : Int) (ha : Fit a) (hb : Fit b) : Trip Tryd.prog 68 [(false, 1), (false, 1), (false, 1)] ([.v (.int .i64 (op))] ++ [.v (.int .i64 (a))] ++ [.v (.int .i64 (b))]) [(false, 1), (false, 1)] [.v (.int .i64 (apN op a b)), .v (.int .i64 (apC op a b))] [] := by
 refine Trip.of Tryd.func68 (by decide) (c := _) rfl rfl (Nat.le_of_ble_eq_true rfl) rfl (AftOk.nil _) <| .seq <| .rs fun k1 => .as rfl <| .as rfl <| .z <| .seq <| .seq <| .rs fun k2 => ?_
 refine .mv rfl <| .z <| .block <| .seq <| .rs fun k3 => .bi rfl <| .as rfl <| .z ?_
 refine .cond (t := op == 8) rfl (fun c0 => ?_) (fun c0 => ?_)
 ·have c0 := (by simpa using c0 : op = 8)
  refine .seq <| .rs fun k4 => .mv rfl <| .mv rfl <| .c0 (c_NumAdd a b) rfl (.dd (.dd .nil)) (.own [13, 0] (.own [13, 1] .nil)) rfl <| .g (fun _ τ => ⟨_, .extract (.no rfl) rfl rfl rfl rfl rfl τ⟩) <| .g (fun _ τ => ⟨_, .extract (.no rfl) rfl rfl rfl rfl rfl τ⟩) <| .c0 (c_fitting (addV a b) (addO a b)) rfl (.dd (.dd .nil)) (.own [16, 0] (.own [16, 1] .nil)) rfl <| .g (fun _ τ => ⟨_, .extract (.no rfl) rfl rfl rfl rfl rfl τ⟩) ?_
  refine .g (fun _ τ => ⟨_, .extract (.no rfl) rfl rfl rfl rfl rfl τ⟩) <| .as rfl <| .as rfl <| .z <| .ret ?_
  exact fin0 (.inr rfl) (.one (svI (show (ftN (addV a b) (addO a b)) = (apN op a b) by first | exact (ap_8 ha hb c0).1 | exact (ap_8 ha hb c0).2 | exact (ap_9 c1).1 | exact (ap_9 c1).2 | exact (ap_10 c2).1 | exact (ap_10 c2).2 | exact (ap_20 c3).1 | exact (ap_20 c3).2 | exact (ap_21 c4).1 | exact (ap_21 c4).2 | exact (ap_div (.inl c5) c7).1 | exact (ap_div (.inl c5) c7).2 | exact (ap_div (.inr c6) c7).1 | exact (ap_div (.inr c6) c7).2 | exact (ap_12 c8 c7).1 | exact (ap_12 c8 c7).2 | exact (ap_11 c5 c7).1 | exact (ap_11 c5 c7).2 | exact (ap_cmp ⟨c0, c1, c2, c3, c4, c5, c6⟩).1 | exact (ap_cmp ⟨c0, c1, c2, c3, c4, c5, c6⟩).2 | (exfalso; omega))) (.one (svI (show (ftC (addO a b)) = (apC op a b) by first | exact (ap_8 ha hb c0).1 | exact (ap_8 ha hb c0).2 | exact (ap_9 c1).1 | exact (ap_9 c1).2 | exact (ap_10 c2).1 | exact (ap_10 c2).2 | exact (ap_20 c3).1 | exact (ap_20 c3).2 | exact (ap_21 c4).1 | exact (ap_21 c4).2 | exact (ap_div (.inl c5) c7).1 | exact (ap_div (.inl c5) c7).2 | exact (ap_div (.inr c6) c7).1 | exact (ap_div (.inr c6) c7).2 | exact (ap_12 c8 c7).1 | exact (ap_12 c8 c7).2 | exact (ap_11 c5 c7).1 | exact (ap_11 c5 c7).2 | exact (ap_cmp ⟨c0, c1, c2, c3, c4, c5, c6⟩).1 | exact (ap_cmp ⟨c0, c1, c2, c3, c4, c5, c6⟩).2 | (exfalso; omega))) .nil)) (.dd (.dd .nil)) rfl
 ·have c0 := (by simpa using c0 : ¬ (op = 8))
  refine .seq <| .rs fun k7 => .bi rfl <| .as rfl <| .z ?_
  refine .cond (t := op == 9) rfl (fun c1 => ?_) (fun c1 => ?_)
  ·have c1 := (by simpa using c1 : op = 9)
   refine .seq <| .rs fun k8 => .mv rfl <| .mv rfl <| .c0 (c_NumSub a b (by assumption) (by assumption)) rfl (.dd (.dd .nil)) (.own [23, 0] (.own [23, 1] .nil)) rfl <| .g (fun _ τ => ⟨_, .extract (.no rfl) rfl rfl rfl rfl rfl τ⟩) <| .g (fun _ τ => ⟨_, .extract (.no rfl) rfl rfl rfl rfl rfl τ⟩) <| .c0 (c_fitting (fitN (a - b)) (fitO (a - b))) rfl (.dd (.dd .nil)) (.own [26, 0] (.own [26, 1] .nil)) rfl <| .g (fun _ τ => ⟨_, .extract (.no rfl) rfl rfl rfl rfl rfl τ⟩) ?_
   refine .g (fun _ τ => ⟨_, .extract (.no rfl) rfl rfl rfl rfl rfl τ⟩) <| .as rfl <| .as rfl <| .z <| .ret ?_
   exact fin0 (.inr rfl) (.one (svI (show (ftN (fitN (a - b)) (fitO (a - b))) = (apN op a b) by first | exact (ap_8 ha hb c0).1 | exact (ap_8 ha hb c0).2 | exact (ap_9 c1).1 | exact (ap_9 c1).2 | exact (ap_10 c2).1 | exact (ap_10 c2).2 | exact (ap_20 c3).1 | exact (ap_20 c3).2 | exact (ap_21 c4).1 | exact (ap_21 c4).2 | exact (ap_div (.inl c5) c7).1 | exact (ap_div (.inl c5) c7).2 | exact (ap_div (.inr c6) c7).1 | exact (ap_div (.inr c6) c7).2 | exact (ap_12 c8 c7).1 | exact (ap_12 c8 c7).2 | exact (ap_11 c5 c7).1 | exact (ap_11 c5 c7).2 | exact (ap_cmp ⟨c0, c1, c2, c3, c4, c5, c6⟩).1 | exact (ap_cmp ⟨c0, c1, c2, c3, c4, c5, c6⟩).2 | (exfalso; omega))) (.one (svI (show (ftC (fitO (a - b))) = (apC op a b) by first | exact (ap_8 ha hb c0).1 | exact (ap_8 ha hb c0).2 | exact (ap_9 c1).1 | exact (ap_9 c1).2 | exact (ap_10 c2).1 | exact (ap_10 c2).2 | exact (ap_20 c3).1 | exact (ap_20 c3).2 | exact (ap_21 c4).1 | exact (ap_21 c4).2 | exact (ap_div (.inl c5) c7).1 | exact (ap_div (.inl c5) c7).2 | exact (ap_div (.inr c6) c7).1 | exact (ap_div (.inr c6) c7).2 | exact (ap_12 c8 c7).1 | exact (ap_12 c8 c7).2 | exact (ap_11 c5 c7).1 | exact (ap_11 c5 c7).2 | exact (ap_cmp ⟨c0, c1, c2, c3, c4, c5, c6⟩).1 | exact (ap_cmp ⟨c0, c1, c2, c3, c4, c5, c6⟩).2 | (exfalso; omega))) .nil)) (.dd (.dd .nil)) rfl
  ·have c1 := (by simpa using c1 : ¬ (op = 9))
   refine .seq <| .rs fun k11 => .bi rfl <| .as rfl <| .z ?_
   refine .cond (t := op == 10) rfl (fun c2 => ?_) (fun c2 => ?_)
   ·have c2 := (by simpa using c2 : op = 10)
    refine .seq <| .rs fun k12 => .mv rfl <| .mv rfl <| .c0 (c_NumMul a b (by assumption) (by assumption)) rfl (.dd (.dd .nil)) (.own [33, 0] (.own [33, 1] .nil)) rfl <| .g (fun _ τ => ⟨_, .extract (.no rfl) rfl rfl rfl rfl rfl τ⟩) <| .g (fun _ τ => ⟨_, .extract (.no rfl) rfl rfl rfl rfl rfl τ⟩) <| .c0 (c_fitting (fitN (a * b)) (fitO (a * b))) rfl (.dd (.dd .nil)) (.own [36, 0] (.own [36, 1] .nil)) rfl <| .g (fun _ τ => ⟨_, .extract (.no rfl) rfl rfl rfl rfl rfl τ⟩) ?_
    refine .g (fun _ τ => ⟨_, .extract (.no rfl) rfl rfl rfl rfl rfl τ⟩) <| .as rfl <| .as rfl <| .z <| .ret ?_
    exact fin0 (.inr rfl) (.one (svI (show (ftN (fitN (a * b)) (fitO (a * b))) = (apN op a b) by first | exact (ap_8 ha hb c0).1 | exact (ap_8 ha hb c0).2 | exact (ap_9 c1).1 | exact (ap_9 c1).2 | exact (ap_10 c2).1 | exact (ap_10 c2).2 | exact (ap_20 c3).1 | exact (ap_20 c3).2 | exact (ap_21 c4).1 | exact (ap_21 c4).2 | exact (ap_div (.inl c5) c7).1 | exact (ap_div (.inl c5) c7).2 | exact (ap_div (.inr c6) c7).1 | exact (ap_div (.inr c6) c7).2 | exact (ap_12 c8 c7).1 | exact (ap_12 c8 c7).2 | exact (ap_11 c5 c7).1 | exact (ap_11 c5 c7).2 | exact (ap_cmp ⟨c0, c1, c2, c3, c4, c5, c6⟩).1 | exact (ap_cmp ⟨c0, c1, c2, c3, c4, c5, c6⟩).2 | (exfalso; omega))) (.one (svI (show (ftC (fitO (a * b))) = (apC op a b) by first | exact (ap_8 ha hb c0).1 | exact (ap_8 ha hb c0).2 | exact (ap_9 c1).1 | exact (ap_9 c1).2 | exact (ap_10 c2).1 | exact (ap_10 c2).2 | exact (ap_20 c3).1 | exact (ap_20 c3).2 | exact (ap_21 c4).1 | exact (ap_21 c4).2 | exact (ap_div (.inl c5) c7).1 | exact (ap_div (.inl c5) c7).2 | exact (ap_div (.inr c6) c7).1 | exact (ap_div (.inr c6) c7).2 | exact (ap_12 c8 c7).1 | exact (ap_12 c8 c7).2 | exact (ap_11 c5 c7).1 | exact (ap_11 c5 c7).2 | exact (ap_cmp ⟨c0, c1, c2, c3, c4, c5, c6⟩).1 | exact (ap_cmp ⟨c0, c1, c2, c3, c4, c5, c6⟩).2 | (exfalso; omega))) .nil)) (.dd (.dd .nil)) rfl
   ·have c2 := (by simpa using c2 : ¬ (op = 10))
    refine .seq <| .rs fun k15 => .bi rfl <| .as rfl <| .z ?_
    refine .cond (t := op == 20) rfl (fun c3 => ?_) (fun c3 => ?_)
    ·have c3 := (by simpa using c3 : op = 20)
     refine .seq <| .rs fun k16 => .mv rfl <| .mv rfl <| .g (fun _ τ => ⟨_, .min (.no rfl) rfl rfl rfl rfl (min_of _ _) rfl τ⟩) <| .as rfl <| .as rfl <| .z <| .ret ?_
     exact fin0 (.inr rfl) (.one (svI (show (min a b) = (apN op a b) by first | exact (ap_8 ha hb c0).1 | exact (ap_8 ha hb c0).2 | exact (ap_9 c1).1 | exact (ap_9 c1).2 | exact (ap_10 c2).1 | exact (ap_10 c2).2 | exact (ap_20 c3).1 | exact (ap_20 c3).2 | exact (ap_21 c4).1 | exact (ap_21 c4).2 | exact (ap_div (.inl c5) c7).1 | exact (ap_div (.inl c5) c7).2 | exact (ap_div (.inr c6) c7).1 | exact (ap_div (.inr c6) c7).2 | exact (ap_12 c8 c7).1 | exact (ap_12 c8 c7).2 | exact (ap_11 c5 c7).1 | exact (ap_11 c5 c7).2 | exact (ap_cmp ⟨c0, c1, c2, c3, c4, c5, c6⟩).1 | exact (ap_cmp ⟨c0, c1, c2, c3, c4, c5, c6⟩).2 | (exfalso; omega))) (.one (svI (show (0) = (apC op a b) by first | exact (ap_8 ha hb c0).1 | exact (ap_8 ha hb c0).2 | exact (ap_9 c1).1 | exact (ap_9 c1).2 | exact (ap_10 c2).1 | exact (ap_10 c2).2 | exact (ap_20 c3).1 | exact (ap_20 c3).2 | exact (ap_21 c4).1 | exact (ap_21 c4).2 | exact (ap_div (.inl c5) c7).1 | exact (ap_div (.inl c5) c7).2 | exact (ap_div (.inr c6) c7).1 | exact (ap_div (.inr c6) c7).2 | exact (ap_12 c8 c7).1 | exact (ap_12 c8 c7).2 | exact (ap_11 c5 c7).1 | exact (ap_11 c5 c7).2 | exact (ap_cmp ⟨c0, c1, c2, c3, c4, c5, c6⟩).1 | exact (ap_cmp ⟨c0, c1, c2, c3, c4, c5, c6⟩).2 | (exfalso; omega))) .nil)) (.dd (.dd .nil)) rfl
    ·have c3 := (by simpa using c3 : ¬ (op = 20))
     refine .seq <| .rs fun k19 => .bi rfl <| .as rfl <| .z ?_
     refine .cond (t := op == 21) rfl (fun c4 => ?_) (fun c4 => ?_)
     ·have c4 := (by simpa using c4 : op = 21)
      refine .seq <| .rs fun k20 => .mv rfl <| .mv rfl <| .g (fun _ τ => ⟨_, .max (.no rfl) rfl rfl rfl rfl (max_of _ _) rfl τ⟩) <| .as rfl <| .as rfl <| .z <| .ret ?_
      exact fin0 (.inr rfl) (.one (svI (show (max a b) = (apN op a b) by first | exact (ap_8 ha hb c0).1 | exact (ap_8 ha hb c0).2 | exact (ap_9 c1).1 | exact (ap_9 c1).2 | exact (ap_10 c2).1 | exact (ap_10 c2).2 | exact (ap_20 c3).1 | exact (ap_20 c3).2 | exact (ap_21 c4).1 | exact (ap_21 c4).2 | exact (ap_div (.inl c5) c7).1 | exact (ap_div (.inl c5) c7).2 | exact (ap_div (.inr c6) c7).1 | exact (ap_div (.inr c6) c7).2 | exact (ap_12 c8 c7).1 | exact (ap_12 c8 c7).2 | exact (ap_11 c5 c7).1 | exact (ap_11 c5 c7).2 | exact (ap_cmp ⟨c0, c1, c2, c3, c4, c5, c6⟩).1 | exact (ap_cmp ⟨c0, c1, c2, c3, c4, c5, c6⟩).2 | (exfalso; omega))) (.one (svI (show (0) = (apC op a b) by first | exact (ap_8 ha hb c0).1 | exact (ap_8 ha hb c0).2 | exact (ap_9 c1).1 | exact (ap_9 c1).2 | exact (ap_10 c2).1 | exact (ap_10 c2).2 | exact (ap_20 c3).1 | exact (ap_20 c3).2 | exact (ap_21 c4).1 | exact (ap_21 c4).2 | exact (ap_div (.inl c5) c7).1 | exact (ap_div (.inl c5) c7).2 | exact (ap_div (.inr c6) c7).1 | exact (ap_div (.inr c6) c7).2 | exact (ap_12 c8 c7).1 | exact (ap_12 c8 c7).2 | exact (ap_11 c5 c7).1 | exact (ap_11 c5 c7).2 | exact (ap_cmp ⟨c0, c1, c2, c3, c4, c5, c6⟩).1 | exact (ap_cmp ⟨c0, c1, c2, c3, c4, c5, c6⟩).2 | (exfalso; omega))) .nil)) (.dd (.dd .nil)) rfl
     ·have c4 := (by simpa using c4 : ¬ (op = 21))
      refine .seq <| .seq <| .rs fun k23 => .bi rfl <| .as rfl <| .z ?_
      refine .cond (t := op == 11) rfl (fun c5 => ?_) (fun c5 => ?_)
      ·have c5 := (by simpa using c5 : op = 11)
       refine .skip ?_
       refine .cond (t := op == 11) rfl (fun c6 => ?_) (fun c6 => ?_)
       ·have c6 := (by simpa using c6 : op = 11)
        refine .seq <| .seq <| .rs fun k24 => .mv rfl <| .bi rfl <| .z ?_
        refine .cond (t := b == 0) rfl (fun c7 => ?_) (fun c7 => ?_)
        ·have c7 := (by simpa using c7 : b = 0)
         refine .seq <| .rs fun k25 => .as rfl <| .as rfl <| .z <| .ret ?_
         exact fin0 (.inr rfl) (.one (svI (show (0) = (apN op a b) by first | exact (ap_8 ha hb c0).1 | exact (ap_8 ha hb c0).2 | exact (ap_9 c1).1 | exact (ap_9 c1).2 | exact (ap_10 c2).1 | exact (ap_10 c2).2 | exact (ap_20 c3).1 | exact (ap_20 c3).2 | exact (ap_21 c4).1 | exact (ap_21 c4).2 | exact (ap_div (.inl c5) c7).1 | exact (ap_div (.inl c5) c7).2 | exact (ap_div (.inr c6) c7).1 | exact (ap_div (.inr c6) c7).2 | exact (ap_12 c8 c7).1 | exact (ap_12 c8 c7).2 | exact (ap_11 c5 c7).1 | exact (ap_11 c5 c7).2 | exact (ap_cmp ⟨c0, c1, c2, c3, c4, c5, c6⟩).1 | exact (ap_cmp ⟨c0, c1, c2, c3, c4, c5, c6⟩).2 | (exfalso; omega))) (.one (svI (show (4) = (apC op a b) by first | exact (ap_8 ha hb c0).1 | exact (ap_8 ha hb c0).2 | exact (ap_9 c1).1 | exact (ap_9 c1).2 | exact (ap_10 c2).1 | exact (ap_10 c2).2 | exact (ap_20 c3).1 | exact (ap_20 c3).2 | exact (ap_21 c4).1 | exact (ap_21 c4).2 | exact (ap_div (.inl c5) c7).1 | exact (ap_div (.inl c5) c7).2 | exact (ap_div (.inr c6) c7).1 | exact (ap_div (.inr c6) c7).2 | exact (ap_12 c8 c7).1 | exact (ap_12 c8 c7).2 | exact (ap_11 c5 c7).1 | exact (ap_11 c5 c7).2 | exact (ap_cmp ⟨c0, c1, c2, c3, c4, c5, c6⟩).1 | exact (ap_cmp ⟨c0, c1, c2, c3, c4, c5, c6⟩).2 | (exfalso; omega))) .nil)) (.dd (.dd .nil)) rfl
        ·have c7 := (by simpa using c7 : ¬ (b = 0))
         refine .skip <| .seq <| .seq <| .rs fun k28 => .mv rfl <| .bi rfl <| .z ?_
         refine .cond (t := op == 12) rfl (fun c8 => ?_) (fun c8 => ?_)
         ·have c8 := (by simpa using c8 : op = 12)
          refine .seq <| .rs fun k29 => .mv rfl <| .mv rfl <| .c0 (c_NumRem a b) rfl (.dd (.dd .nil)) (.own [58, 0] .nil) rfl <| .as rfl <| .as rfl <| .z <| .ret ?_
          exact fin0 (.inr rfl) (.one (svI (show (remN a b) = (apN op a b) by first | exact (ap_8 ha hb c0).1 | exact (ap_8 ha hb c0).2 | exact (ap_9 c1).1 | exact (ap_9 c1).2 | exact (ap_10 c2).1 | exact (ap_10 c2).2 | exact (ap_20 c3).1 | exact (ap_20 c3).2 | exact (ap_21 c4).1 | exact (ap_21 c4).2 | exact (ap_div (.inl c5) c7).1 | exact (ap_div (.inl c5) c7).2 | exact (ap_div (.inr c6) c7).1 | exact (ap_div (.inr c6) c7).2 | exact (ap_12 c8 c7).1 | exact (ap_12 c8 c7).2 | exact (ap_11 c5 c7).1 | exact (ap_11 c5 c7).2 | exact (ap_cmp ⟨c0, c1, c2, c3, c4, c5, c6⟩).1 | exact (ap_cmp ⟨c0, c1, c2, c3, c4, c5, c6⟩).2 | (exfalso; omega))) (.one (svI (show (0) = (apC op a b) by first | exact (ap_8 ha hb c0).1 | exact (ap_8 ha hb c0).2 | exact (ap_9 c1).1 | exact (ap_9 c1).2 | exact (ap_10 c2).1 | exact (ap_10 c2).2 | exact (ap_20 c3).1 | exact (ap_20 c3).2 | exact (ap_21 c4).1 | exact (ap_21 c4).2 | exact (ap_div (.inl c5) c7).1 | exact (ap_div (.inl c5) c7).2 | exact (ap_div (.inr c6) c7).1 | exact (ap_div (.inr c6) c7).2 | exact (ap_12 c8 c7).1 | exact (ap_12 c8 c7).2 | exact (ap_11 c5 c7).1 | exact (ap_11 c5 c7).2 | exact (ap_cmp ⟨c0, c1, c2, c3, c4, c5, c6⟩).1 | exact (ap_cmp ⟨c0, c1, c2, c3, c4, c5, c6⟩).2 | (exfalso; omega))) .nil)) (.dd (.dd .nil)) rfl
         ·have c8 := (by simpa using c8 : ¬ (op = 12))
          refine .skip <| .seq <| .rs fun k32 => .mv rfl <| .mv rfl <| .c0 (c_NumQuo a b (by assumption) (by assumption)) rfl (.dd (.dd .nil)) (.own [61, 0] (.own [61, 1] .nil)) rfl <| .g (fun _ τ => ⟨_, .extract (.no rfl) rfl rfl rfl rfl rfl τ⟩) <| .g (fun _ τ => ⟨_, .extract (.no rfl) rfl rfl rfl rfl rfl τ⟩) <| .c0 (c_fitting (quoN a b) (quoO a b)) rfl (.dd (.dd .nil)) (.own [64, 0] (.own [64, 1] .nil)) rfl ?_
          refine .g (fun _ τ => ⟨_, .extract (.no rfl) rfl rfl rfl rfl rfl τ⟩) <| .g (fun _ τ => ⟨_, .extract (.no rfl) rfl rfl rfl rfl rfl τ⟩) <| .as rfl <| .as rfl <| .z <| .ret ?_
          exact fin0 (.inr rfl) (.one (svI (show (ftN (quoN a b) (quoO a b)) = (apN op a b) by first | exact (ap_8 ha hb c0).1 | exact (ap_8 ha hb c0).2 | exact (ap_9 c1).1 | exact (ap_9 c1).2 | exact (ap_10 c2).1 | exact (ap_10 c2).2 | exact (ap_20 c3).1 | exact (ap_20 c3).2 | exact (ap_21 c4).1 | exact (ap_21 c4).2 | exact (ap_div (.inl c5) c7).1 | exact (ap_div (.inl c5) c7).2 | exact (ap_div (.inr c6) c7).1 | exact (ap_div (.inr c6) c7).2 | exact (ap_12 c8 c7).1 | exact (ap_12 c8 c7).2 | exact (ap_11 c5 c7).1 | exact (ap_11 c5 c7).2 | exact (ap_cmp ⟨c0, c1, c2, c3, c4, c5, c6⟩).1 | exact (ap_cmp ⟨c0, c1, c2, c3, c4, c5, c6⟩).2 | (exfalso; omega))) (.one (svI (show (ftC (quoO a b)) = (apC op a b) by first | exact (ap_8 ha hb c0).1 | exact (ap_8 ha hb c0).2 | exact (ap_9 c1).1 | exact (ap_9 c1).2 | exact (ap_10 c2).1 | exact (ap_10 c2).2 | exact (ap_20 c3).1 | exact (ap_20 c3).2 | exact (ap_21 c4).1 | exact (ap_21 c4).2 | exact (ap_div (.inl c5) c7).1 | exact (ap_div (.inl c5) c7).2 | exact (ap_div (.inr c6) c7).1 | exact (ap_div (.inr c6) c7).2 | exact (ap_12 c8 c7).1 | exact (ap_12 c8 c7).2 | exact (ap_11 c5 c7).1 | exact (ap_11 c5 c7).2 | exact (ap_cmp ⟨c0, c1, c2, c3, c4, c5, c6⟩).1 | exact (ap_cmp ⟨c0, c1, c2, c3, c4, c5, c6⟩).2 | (exfalso; omega))) .nil)) (.dd (.dd .nil)) rfl
       ·have c6 := (by simpa using c6 : ¬ (op = 11))
        refine .skip <| .seq <| .rs fun k35 => .mv rfl <| .mv rfl <| .mv rfl <| .c0 (c_compares op a b) rfl (.dd (.dd (.dd .nil))) (.own [70, 0] .nil) rfl <| .c0 (c_truth (cmpB op a b)) rfl (.dd .nil) (.own [71, 0] .nil) rfl <| .as rfl ?_
        refine .as rfl <| .z <| .ret ?_
        exact fin0 (.inr rfl) (.one (svI (show (truthN (cmpB op a b)) = (apN op a b) by first | exact (ap_8 ha hb c0).1 | exact (ap_8 ha hb c0).2 | exact (ap_9 c1).1 | exact (ap_9 c1).2 | exact (ap_10 c2).1 | exact (ap_10 c2).2 | exact (ap_20 c3).1 | exact (ap_20 c3).2 | exact (ap_21 c4).1 | exact (ap_21 c4).2 | exact (ap_div (.inl c5) c7).1 | exact (ap_div (.inl c5) c7).2 | exact (ap_div (.inr c6) c7).1 | exact (ap_div (.inr c6) c7).2 | exact (ap_12 c8 c7).1 | exact (ap_12 c8 c7).2 | exact (ap_11 c5 c7).1 | exact (ap_11 c5 c7).2 | exact (ap_cmp ⟨c0, c1, c2, c3, c4, c5, c6⟩).1 | exact (ap_cmp ⟨c0, c1, c2, c3, c4, c5, c6⟩).2 | (exfalso; omega))) (.one (svI (show (0) = (apC op a b) by first | exact (ap_8 ha hb c0).1 | exact (ap_8 ha hb c0).2 | exact (ap_9 c1).1 | exact (ap_9 c1).2 | exact (ap_10 c2).1 | exact (ap_10 c2).2 | exact (ap_20 c3).1 | exact (ap_20 c3).2 | exact (ap_21 c4).1 | exact (ap_21 c4).2 | exact (ap_div (.inl c5) c7).1 | exact (ap_div (.inl c5) c7).2 | exact (ap_div (.inr c6) c7).1 | exact (ap_div (.inr c6) c7).2 | exact (ap_12 c8 c7).1 | exact (ap_12 c8 c7).2 | exact (ap_11 c5 c7).1 | exact (ap_11 c5 c7).2 | exact (ap_cmp ⟨c0, c1, c2, c3, c4, c5, c6⟩).1 | exact (ap_cmp ⟨c0, c1, c2, c3, c4, c5, c6⟩).2 | (exfalso; omega))) .nil)) (.dd (.dd .nil)) rfl
      ·have c5 := (by simpa using c5 : ¬ (op = 11))
       refine .rs fun k38 => .bi rfl <| .as rfl <| .z ?_
       refine .cond (t := op == 12) rfl (fun c6 => ?_) (fun c6 => ?_)
       ·have c6 := (by simpa using c6 : op = 12)
        refine .seq <| .seq <| .rs fun k39 => .mv rfl <| .bi rfl <| .z ?_
        refine .cond (t := b == 0) rfl (fun c7 => ?_) (fun c7 => ?_)
        ·have c7 := (by simpa using c7 : b = 0)
         refine .seq <| .rs fun k40 => .as rfl <| .as rfl <| .z <| .ret ?_
         exact fin0 (.inr rfl) (.one (svI (show (0) = (apN op a b) by first | exact (ap_8 ha hb c0).1 | exact (ap_8 ha hb c0).2 | exact (ap_9 c1).1 | exact (ap_9 c1).2 | exact (ap_10 c2).1 | exact (ap_10 c2).2 | exact (ap_20 c3).1 | exact (ap_20 c3).2 | exact (ap_21 c4).1 | exact (ap_21 c4).2 | exact (ap_div (.inl c5) c7).1 | exact (ap_div (.inl c5) c7).2 | exact (ap_div (.inr c6) c7).1 | exact (ap_div (.inr c6) c7).2 | exact (ap_12 c8 c7).1 | exact (ap_12 c8 c7).2 | exact (ap_11 c5 c7).1 | exact (ap_11 c5 c7).2 | exact (ap_cmp ⟨c0, c1, c2, c3, c4, c5, c6⟩).1 | exact (ap_cmp ⟨c0, c1, c2, c3, c4, c5, c6⟩).2 | (exfalso; omega))) (.one (svI (show (4) = (apC op a b) by first | exact (ap_8 ha hb c0).1 | exact (ap_8 ha hb c0).2 | exact (ap_9 c1).1 | exact (ap_9 c1).2 | exact (ap_10 c2).1 | exact (ap_10 c2).2 | exact (ap_20 c3).1 | exact (ap_20 c3).2 | exact (ap_21 c4).1 | exact (ap_21 c4).2 | exact (ap_div (.inl c5) c7).1 | exact (ap_div (.inl c5) c7).2 | exact (ap_div (.inr c6) c7).1 | exact (ap_div (.inr c6) c7).2 | exact (ap_12 c8 c7).1 | exact (ap_12 c8 c7).2 | exact (ap_11 c5 c7).1 | exact (ap_11 c5 c7).2 | exact (ap_cmp ⟨c0, c1, c2, c3, c4, c5, c6⟩).1 | exact (ap_cmp ⟨c0, c1, c2, c3, c4, c5, c6⟩).2 | (exfalso; omega))) .nil)) (.dd (.dd .nil)) rfl
        ·have c7 := (by simpa using c7 : ¬ (b = 0))
         refine .skip <| .seq <| .seq <| .rs fun k43 => .mv rfl <| .bi rfl <| .z ?_
         refine .cond (t := op == 12) rfl (fun c8 => ?_) (fun c8 => ?_)
         ·have c8 := (by simpa using c8 : op = 12)
          refine .seq <| .rs fun k44 => .mv rfl <| .mv rfl <| .c0 (c_NumRem a b) rfl (.dd (.dd .nil)) (.own [58, 0] .nil) rfl <| .as rfl <| .as rfl <| .z <| .ret ?_
          exact fin0 (.inr rfl) (.one (svI (show (remN a b) = (apN op a b) by first | exact (ap_8 ha hb c0).1 | exact (ap_8 ha hb c0).2 | exact (ap_9 c1).1 | exact (ap_9 c1).2 | exact (ap_10 c2).1 | exact (ap_10 c2).2 | exact (ap_20 c3).1 | exact (ap_20 c3).2 | exact (ap_21 c4).1 | exact (ap_21 c4).2 | exact (ap_div (.inl c5) c7).1 | exact (ap_div (.inl c5) c7).2 | exact (ap_div (.inr c6) c7).1 | exact (ap_div (.inr c6) c7).2 | exact (ap_12 c8 c7).1 | exact (ap_12 c8 c7).2 | exact (ap_11 c5 c7).1 | exact (ap_11 c5 c7).2 | exact (ap_cmp ⟨c0, c1, c2, c3, c4, c5, c6⟩).1 | exact (ap_cmp ⟨c0, c1, c2, c3, c4, c5, c6⟩).2 | (exfalso; omega))) (.one (svI (show (0) = (apC op a b) by first | exact (ap_8 ha hb c0).1 | exact (ap_8 ha hb c0).2 | exact (ap_9 c1).1 | exact (ap_9 c1).2 | exact (ap_10 c2).1 | exact (ap_10 c2).2 | exact (ap_20 c3).1 | exact (ap_20 c3).2 | exact (ap_21 c4).1 | exact (ap_21 c4).2 | exact (ap_div (.inl c5) c7).1 | exact (ap_div (.inl c5) c7).2 | exact (ap_div (.inr c6) c7).1 | exact (ap_div (.inr c6) c7).2 | exact (ap_12 c8 c7).1 | exact (ap_12 c8 c7).2 | exact (ap_11 c5 c7).1 | exact (ap_11 c5 c7).2 | exact (ap_cmp ⟨c0, c1, c2, c3, c4, c5, c6⟩).1 | exact (ap_cmp ⟨c0, c1, c2, c3, c4, c5, c6⟩).2 | (exfalso; omega))) .nil)) (.dd (.dd .nil)) rfl
         ·have c8 := (by simpa using c8 : ¬ (op = 12))
          refine .skip <| .seq <| .rs fun k47 => .mv rfl <| .mv rfl <| .c0 (c_NumQuo a b (by assumption) (by assumption)) rfl (.dd (.dd .nil)) (.own [61, 0] (.own [61, 1] .nil)) rfl <| .g (fun _ τ => ⟨_, .extract (.no rfl) rfl rfl rfl rfl rfl τ⟩) <| .g (fun _ τ => ⟨_, .extract (.no rfl) rfl rfl rfl rfl rfl τ⟩) <| .c0 (c_fitting (quoN a b) (quoO a b)) rfl (.dd (.dd .nil)) (.own [64, 0] (.own [64, 1] .nil)) rfl ?_
          refine .g (fun _ τ => ⟨_, .extract (.no rfl) rfl rfl rfl rfl rfl τ⟩) <| .g (fun _ τ => ⟨_, .extract (.no rfl) rfl rfl rfl rfl rfl τ⟩) <| .as rfl <| .as rfl <| .z <| .ret ?_
          exact fin0 (.inr rfl) (.one (svI (show (ftN (quoN a b) (quoO a b)) = (apN op a b) by first | exact (ap_8 ha hb c0).1 | exact (ap_8 ha hb c0).2 | exact (ap_9 c1).1 | exact (ap_9 c1).2 | exact (ap_10 c2).1 | exact (ap_10 c2).2 | exact (ap_20 c3).1 | exact (ap_20 c3).2 | exact (ap_21 c4).1 | exact (ap_21 c4).2 | exact (ap_div (.inl c5) c7).1 | exact (ap_div (.inl c5) c7).2 | exact (ap_div (.inr c6) c7).1 | exact (ap_div (.inr c6) c7).2 | exact (ap_12 c8 c7).1 | exact (ap_12 c8 c7).2 | exact (ap_11 c5 c7).1 | exact (ap_11 c5 c7).2 | exact (ap_cmp ⟨c0, c1, c2, c3, c4, c5, c6⟩).1 | exact (ap_cmp ⟨c0, c1, c2, c3, c4, c5, c6⟩).2 | (exfalso; omega))) (.one (svI (show (ftC (quoO a b)) = (apC op a b) by first | exact (ap_8 ha hb c0).1 | exact (ap_8 ha hb c0).2 | exact (ap_9 c1).1 | exact (ap_9 c1).2 | exact (ap_10 c2).1 | exact (ap_10 c2).2 | exact (ap_20 c3).1 | exact (ap_20 c3).2 | exact (ap_21 c4).1 | exact (ap_21 c4).2 | exact (ap_div (.inl c5) c7).1 | exact (ap_div (.inl c5) c7).2 | exact (ap_div (.inr c6) c7).1 | exact (ap_div (.inr c6) c7).2 | exact (ap_12 c8 c7).1 | exact (ap_12 c8 c7).2 | exact (ap_11 c5 c7).1 | exact (ap_11 c5 c7).2 | exact (ap_cmp ⟨c0, c1, c2, c3, c4, c5, c6⟩).1 | exact (ap_cmp ⟨c0, c1, c2, c3, c4, c5, c6⟩).2 | (exfalso; omega))) .nil)) (.dd (.dd .nil)) rfl
       ·have c6 := (by simpa using c6 : ¬ (op = 12))
        refine .skip <| .seq <| .rs fun k50 => .mv rfl <| .mv rfl <| .mv rfl <| .c0 (c_compares op a b) rfl (.dd (.dd (.dd .nil))) (.own [70, 0] .nil) rfl <| .c0 (c_truth (cmpB op a b)) rfl (.dd .nil) (.own [71, 0] .nil) rfl <| .as rfl ?_
        refine .as rfl <| .z <| .ret ?_
        exact fin0 (.inr rfl) (.one (svI (show (truthN (cmpB op a b)) = (apN op a b) by first | exact (ap_8 ha hb c0).1 | exact (ap_8 ha hb c0).2 | exact (ap_9 c1).1 | exact (ap_9 c1).2 | exact (ap_10 c2).1 | exact (ap_10 c2).2 | exact (ap_20 c3).1 | exact (ap_20 c3).2 | exact (ap_21 c4).1 | exact (ap_21 c4).2 | exact (ap_div (.inl c5) c7).1 | exact (ap_div (.inl c5) c7).2 | exact (ap_div (.inr c6) c7).1 | exact (ap_div (.inr c6) c7).2 | exact (ap_12 c8 c7).1 | exact (ap_12 c8 c7).2 | exact (ap_11 c5 c7).1 | exact (ap_11 c5 c7).2 | exact (ap_cmp ⟨c0, c1, c2, c3, c4, c5, c6⟩).1 | exact (ap_cmp ⟨c0, c1, c2, c3, c4, c5, c6⟩).2 | (exfalso; omega))) (.one (svI (show (0) = (apC op a b) by first | exact (ap_8 ha hb c0).1 | exact (ap_8 ha hb c0).2 | exact (ap_9 c1).1 | exact (ap_9 c1).2 | exact (ap_10 c2).1 | exact (ap_10 c2).2 | exact (ap_20 c3).1 | exact (ap_20 c3).2 | exact (ap_21 c4).1 | exact (ap_21 c4).2 | exact (ap_div (.inl c5) c7).1 | exact (ap_div (.inl c5) c7).2 | exact (ap_div (.inr c6) c7).1 | exact (ap_div (.inr c6) c7).2 | exact (ap_12 c8 c7).1 | exact (ap_12 c8 c7).2 | exact (ap_11 c5 c7).1 | exact (ap_11 c5 c7).2 | exact (ap_cmp ⟨c0, c1, c2, c3, c4, c5, c6⟩).1 | exact (ap_cmp ⟨c0, c1, c2, c3, c4, c5, c6⟩).2 | (exfalso; omega))) .nil)) (.dd (.dd .nil)) rfl
end Go.Proofs

namespace Go.Proofs
open Go Go.Proofs Go.Ev

theorem c_StoreOk (d : Decl) (s : Store) (hb : d.vars.length ≤ 1048576 ∧ d.flags.length ≤ 1048576 ∧ d.arrays.length ≤ 1048576) (hs : ∀ x ∈ Decl.names d, x.size ≤ 9223372036854775807) : Trip Tryd.prog 19 [(true, 3), (true, 3)] (Decl.c36 d ++ Store.c46 s) [(false, 1)] [.v (.bool (Store.ok d s))] [] := by
 refine Trip.of Tryd.func19 (by decide) (c := _) rfl rfl (Nat.le_of_ble_eq_true rfl) rfl (AftOk.nil _) <| .sla (t := 0) 0 rfl rfl fun hs1l => .sla (t := 0) 1 rfl rfl fun hs2l => .sla (t := 0) 2 rfl rfl fun hs3l => .sla (t := 1) 0 rfl rfl fun hs4l => .sla (t := 1) 1 rfl rfl fun hs5l => .sla (t := 1) 2 rfl rfl fun hs6l => .seq <| .rs fun k7 => ?_
 refine .g (fun _ τ => ⟨_, .box (.no rfl) rfl rfl rfl rfl rfl τ⟩) <| .g (fun _ τ => ⟨_, .box (.no rfl) rfl rfl rfl rfl rfl τ⟩) <| .as rfl <| .z <| .seq ?_
 refine .reg (X := Unit) (fun ζ => .of [(4, .one (.d (.v (.bool ((Decl.ok d && Store.okIn d s))))))] []) [⟨[2], some 5, [[2]], []⟩, ⟨[5], some 6, [], []⟩, ⟨[6], some 7, [], []⟩, ⟨[7, 2], some 8, [[2]], []⟩, ⟨[7, 3], some 9, [[3]], []⟩, ⟨[7, 8, 9], some 10, [], []⟩, ⟨[7, 10], some 11, [], []⟩, ⟨[11], some 4, [], []⟩] (fun k8 => ?_) ?_
 ·skip
  refine .load (.no rfl) rfl t36 rfl rfl (.ptr _ _ _ _ _ rfl) rfl rfl rfl rfl <| .call (.no rfl) rfl [] [] (c_isRight d (by assumption) (by assumption)) rfl rfl rfl rfl rfl (.dd (.dd (.dd .nil))) rfl rfl (fun h => absurd rfl h) (.own [6, 0] .nil) (.nil) rfl rfl rfl (by simp) rfl rfl rfl <| .moveB (.no rfl) rfl rfl rfl rfl fun b9 g1_2 => ?_
  cases b9
  ·skip
   refine .off rfl rfl rfl rfl rfl rfl rfl <| .off rfl rfl rfl rfl rfl rfl rfl <| .off rfl rfl rfl rfl rfl rfl rfl <| .pick (.no rfl) rfl rfl rfl rfl rfl <| .assign (.no rfl) rfl rfl rfl rfl ?_
   exact .fin () (.of (.cons (svB (show (false) = ((Decl.ok d && Store.okIn d s)) by first | (simp only [g1_2, Bool.true_or, Bool.false_or, Bool.true_and, Bool.false_and, Bool.not_true, Bool.not_false]; done) | (simp [g1_2]; done) | (exfalso; simp_all; done))) .nil) .nil)
  ·skip
   refine .load (.on rfl rfl rfl rfl rfl) rfl t36 rfl rfl (.ptr _ _ _ _ _ rfl) rfl rfl rfl rfl <| .load (.on rfl rfl rfl rfl rfl) rfl t46 rfl rfl (.ptr _ _ _ _ _ rfl) rfl rfl rfl rfl <| .call (.on rfl rfl rfl rfl rfl) rfl [] [] (c_isStore d s) rfl rfl rfl rfl rfl (.dd (.dd (.dd (.dd (.dd (.dd .nil)))))) rfl rfl (fun h => absurd rfl h) (.own [10, 0] .nil) (.nil) rfl rfl rfl (by simp) rfl rfl rfl <| .pick (.no rfl) rfl rfl rfl rfl rfl <| .assign (.no rfl) rfl rfl rfl rfl ?_
   exact .fin () (.of (.cons (svB (show (Store.okIn d s) = ((Decl.ok d && Store.okIn d s)) by first | (simp only [g1_2, Bool.true_or, Bool.false_or, Bool.true_and, Bool.false_and, Bool.not_true, Bool.not_false]; done) | (simp [g1_2]; done) | (exfalso; simp_all; done))) .nil) .nil)
 intro _
 refine .ret ?_
 exact fin0 (.inr rfl) (.one (svB (show ((Decl.ok d && Store.okIn d s)) = (Store.ok d s) by rfl)) .nil) (.dd .nil) rfl
theorem c_thing (s : Store) (t : Tok) (hv : t.op = 2 → 0 ≤ t.n ∧ t.n < s.ints.length) (hg : t.op = 3 → 0 ≤ t.n ∧ t.n < s.flags.length) : Trip Tryd.prog 66 [(true, 3), (true, 2)] (Store.c46 s ++ Tok.c t) [(false, 1)] [.v (.int .i64 (thingV s t))] [] := by
 refine Trip.of Tryd.func66 (by decide) (c := _) rfl rfl (Nat.le_of_ble_eq_true rfl) rfl (AftOk.nil _) <| .sla (t := 0) 0 rfl rfl fun hs1l => .sla (t := 0) 1 rfl rfl fun hs2l => .sla (t := 0) 2 rfl rfl fun hs3l => .seq <| .rs fun k4 => .g (fun _ τ => ⟨_, .box (.no rfl) rfl rfl rfl rfl rfl τ⟩) <| .g (fun _ τ => ⟨_, .box (.no rfl) rfl rfl rfl rfl rfl τ⟩) <| .as rfl ?_
 refine .z <| .seq <| .seq <| .rs fun k5 => .fp t40 t2 rfl <| .ld t2 rfl (.ptr _ _ _ _ _ rfl) rfl <| .z <| .block <| .seq ?_
 refine .rs fun k6 => .bi rfl <| .as rfl <| .z ?_
 refine .cond (t := t.op == 1) rfl (fun c0 => ?_) (fun c0 => ?_)
 ·have c0 := (by simpa using c0 : t.op = 1)
  refine .seq <| .rs fun k7 => .fp t40 t2 rfl <| .ld t2 rfl (.ptr _ _ _ _ _ rfl) rfl <| .as rfl <| .z <| .ret ?_
  exact fin0 (.inr rfl) (.one (svI (show (t.n) = (thingV s t) by (unfold thingV; first | (rw [if_pos c0]; done) | (rw [if_neg c0, if_pos c1]; done) | (rw [if_neg c0, if_neg c1, if_pos c2]; done) | (rw [if_neg c0, if_neg c1, if_neg c2]; done)))) .nil) (.dd .nil) rfl
 ·have c0 := (by simpa using c0 : ¬ (t.op = 1))
  refine .seq <| .rs fun k9 => .bi rfl <| .as rfl <| .z ?_
  refine .cond (t := t.op == 2) rfl (fun c1 => ?_) (fun c1 => ?_)
  ·have c1 := (by simpa using c1 : t.op = 2)
   refine .seq <| .rs fun k10 => .fp t46 t42 rfl <| .ld t42 rfl (.ptr _ _ _ _ _ rfl) rfl <| .fp t40 t2 rfl <| .ld t2 rfl (.ptr _ _ _ _ _ rfl) rfl <| .g (fun _ τ => ⟨_, .indexAddr (.no rfl) rfl ((t.n).toNat) t42 rfl t2 rfl rfl rfl (.d _ _) rfl rfl (by omega) (map_get (by omega)) rfl rfl τ⟩) <| .ld t2 rfl (.d _) rfl <| .as rfl ?_
   refine .z <| .ret ?_
   exact fin0 (.inr rfl) (.one (svI (show (s.ints.getD ((t.n).toNat) default) = (thingV s t) by (unfold thingV; first | (rw [if_pos c0]; done) | (rw [if_neg c0, if_pos c1]; done) | (rw [if_neg c0, if_neg c1, if_pos c2]; done) | (rw [if_neg c0, if_neg c1, if_neg c2]; done)))) .nil) (.dd .nil) rfl
  ·have c1 := (by simpa using c1 : ¬ (t.op = 2))
   refine .seq <| .rs fun k12 => .bi rfl <| .as rfl <| .z ?_
   refine .cond (t := t.op == 3) rfl (fun c2 => ?_) (fun c2 => ?_)
   ·have c2 := (by simpa using c2 : t.op = 3)
    refine .seq <| .rs fun k13 => .fp t46 t43 rfl <| .ld t43 rfl (.ptr _ _ _ _ _ rfl) rfl <| .fp t40 t2 rfl <| .ld t2 rfl (.ptr _ _ _ _ _ rfl) rfl <| .g (fun _ τ => ⟨_, .indexAddr (.no rfl) rfl ((t.n).toNat) t43 rfl t4 rfl rfl rfl (.d _ _) rfl rfl (by omega) (map_get (by omega)) rfl rfl τ⟩) <| .ld t4 rfl (.d _) rfl <| .c0 (c_truth (s.flags.getD ((t.n).toNat) default)) rfl (.dd .nil) (.own [27, 0] .nil) rfl ?_
    refine .as rfl <| .z <| .ret ?_
    exact fin0 (.inr rfl) (.one (svI (show (truthN (s.flags.getD ((t.n).toNat) default)) = (thingV s t) by (unfold thingV; first | (rw [if_pos c0]; done) | (rw [if_neg c0, if_pos c1]; done) | (rw [if_neg c0, if_neg c1, if_pos c2]; done) | (rw [if_neg c0, if_neg c1, if_neg c2]; done)))) .nil) (.dd .nil) rfl
   ·have c2 := (by simpa using c2 : ¬ (t.op = 3))
    refine .skip <| .seq <| .rs fun k15 => .fp t40 t2 rfl <| .ld t2 rfl (.ptr _ _ _ _ _ rfl) rfl <| .bi rfl <| .c0 (c_truth (t.op == 4)) rfl (.dd .nil) (.own [31, 0] .nil) rfl <| .as rfl <| .z ?_
    refine .ret ?_
    exact fin0 (.inr rfl) (.one (svI (show (truthN (t.op == 4)) = (thingV s t) by (unfold thingV; first | (rw [if_pos c0]; done) | (rw [if_neg c0, if_pos c1]; done) | (rw [if_neg c0, if_neg c1, if_pos c2]; done) | (rw [if_neg c0, if_neg c1, if_neg c2]; done)))) .nil) (.dd .nil) rfl
theorem c_of (s : Store) (t : Tok) (a : Int) (hv : t.op = 6 → 0 ≤ t.n ∧ t.n < s.arrs.length) (hl : ∀ x ∈ s.arrs, x.length ≤ 1048576) (ha : Fit a) (h1 : ¬ t.op = 6 → ¬ t.op = 7 → a = 0 ∨ a = 1) : Trip Tryd.prog 67 [(true, 3), (true, 2), (false, 1)] (Store.c46 s ++ Tok.c t ++ [.v (.int .i64 (a))]) [(false, 1), (false, 1)] [.v (.int .i64 (ofN s t a)), .v (.int .i64 (ofC s t a))] [] := by
 refine Trip.of Tryd.func67 (by decide) (c := _) rfl rfl (Nat.le_of_ble_eq_true rfl) rfl (AftOk.nil _) <| .sla (t := 0) 0 rfl rfl fun hs1l => .sla (t := 0) 1 rfl rfl fun hs2l => .sla (t := 0) 2 rfl rfl fun hs3l => .seq <| .rs fun k4 => .g (fun _ τ => ⟨_, .box (.no rfl) rfl rfl rfl rfl rfl τ⟩) <| .g (fun _ τ => ⟨_, .box (.no rfl) rfl rfl rfl rfl rfl τ⟩) <| .as rfl ?_
 refine .as rfl <| .z <| .seq <| .seq <| .rs fun k5 => .fp t40 t2 rfl <| .ld t2 rfl (.ptr _ _ _ _ _ rfl) rfl <| .z <| .block ?_
 refine .seq <| .rs fun k6 => .bi rfl <| .as rfl <| .z ?_
 refine .cond (t := t.op == 6) rfl (fun c0 => ?_) (fun c0 => ?_)
 ·have c0 := (by simpa using c0 : t.op = 6)
  refine .seq <| .rs fun k7 => .fp t46 t44 rfl <| .ld t44 rfl (.ptr _ _ _ _ _ rfl) rfl <| .fp t40 t2 rfl <| .ld t2 rfl (.ptr _ _ _ _ _ rfl) rfl <| .g (fun _ τ => ⟨_, .indexAddr (.no rfl) rfl ((t.n).toNat) t44 rfl t42 rfl rfl rfl (.d _ _) rfl rfl (by omega) (map_get (by omega)) rfl rfl τ⟩) <| .ld t42 rfl (.d _) rfl <| .as rfl ?_
  refine .z <| .seq <| .seq <| .rs fun k8 => .mv rfl <| .mv rfl <| .c0 (c_sizeN (s.arrs.getD ((t.n).toNat) default)) rfl (.dd .nil) (.own [21, 0] .nil) rfl <| .g (fun _ τ => ⟨_, .binN (.no rfl) rfl (show IntKind.wrap .i64 (((s.arrs.getD ((t.n).toNat) default).length : Int) - 1) = ((s.arrs.getD t.n.toNat default).length : Int) - 1 by (exact wrap_le (by omega) (by have h9 := hl _ (getD_mem (a := s.arrs) (j := t.n.toNat) (by omega)); omega))) rfl rfl rfl rfl rfl τ⟩) <| .c0 (c_within a 0 (((s.arrs.getD t.n.toNat default).length : Int) - 1)) rfl (.dd (.dd (.dd .nil))) (.own [23, 0] .nil) rfl ?_
  refine .un rfl <| .z ?_
  refine .cond (t := !(inR a 0 (((s.arrs.getD t.n.toNat default).length : Int) - 1))) rfl (fun c1 => ?_) (fun c1 => ?_)
  ·have c1 := (nT id) c1
   refine .seq <| .rs fun k9 => .as rfl <| .as rfl <| .z <| .ret ?_
   exact fin0 (.inr rfl) (.one (svI (show (0) = (ofN s t a) by first | exact (of_6n c0 c1).1 | exact (of_6n c0 c1).2 | exact (of_6 c0 c1).1 | exact (of_6 c0 c1).2 | exact (of_7 c2).1 | exact (of_7 c2).2 | exact (of_19 c0 c2).1 | exact (of_19 c0 c2).2)) (.one (svI (show (5) = (ofC s t a) by first | exact (of_6n c0 c1).1 | exact (of_6n c0 c1).2 | exact (of_6 c0 c1).1 | exact (of_6 c0 c1).2 | exact (of_7 c2).1 | exact (of_7 c2).2 | exact (of_19 c0 c2).1 | exact (of_19 c0 c2).2)) .nil)) (.dd (.dd .nil)) rfl
  ·have c1 := (nF id) c1
   have hi9 := inR_iff.1 c1
   refine .skip <| .seq <| .rs fun k12 => .mv rfl <| .mv rfl <| .g (fun _ τ => ⟨_, .indexAddr (.no rfl) rfl ((a).toNat) t42 rfl t2 rfl rfl rfl (.d _ _) rfl rfl (by omega) (map_get (by omega)) rfl rfl τ⟩) <| .ld t2 rfl (.d _) rfl <| .as rfl <| .as rfl ?_
   refine .z <| .ret ?_
   exact fin0 (.inr rfl) (.one (svI (show ((s.arrs.getD ((t.n).toNat) default).getD ((a).toNat) default) = (ofN s t a) by first | exact (of_6n c0 c1).1 | exact (of_6n c0 c1).2 | exact (of_6 c0 c1).1 | exact (of_6 c0 c1).2 | exact (of_7 c2).1 | exact (of_7 c2).2 | exact (of_19 c0 c2).1 | exact (of_19 c0 c2).2)) (.one (svI (show (0) = (ofC s t a) by first | exact (of_6n c0 c1).1 | exact (of_6n c0 c1).2 | exact (of_6 c0 c1).1 | exact (of_6 c0 c1).2 | exact (of_7 c2).1 | exact (of_7 c2).2 | exact (of_19 c0 c2).1 | exact (of_19 c0 c2).2)) .nil)) (.dd (.dd .nil)) rfl
 ·have c0 := (by simpa using c0 : ¬ (t.op = 6))
  refine .seq <| .rs fun k15 => .bi rfl <| .as rfl <| .z ?_
  refine .cond (t := t.op == 7) rfl (fun c2 => ?_) (fun c2 => ?_)
  ·have c2 := (by simpa using c2 : t.op = 7)
   refine .seq <| .rs fun k16 => .mv rfl <| .c0 (c_NumSub 0 a (by first | assumption | (unfold Fit; omega)) (by first | assumption | (unfold Fit; omega))) rfl (.dd (.dd .nil)) (.own [32, 0] (.own [32, 1] .nil)) rfl <| .g (fun _ τ => ⟨_, .extract (.no rfl) rfl rfl rfl rfl rfl τ⟩) <| .g (fun _ τ => ⟨_, .extract (.no rfl) rfl rfl rfl rfl rfl τ⟩) <| .c0 (c_fitting (fitN (0 - a)) (fitO (0 - a))) rfl (.dd (.dd .nil)) (.own [35, 0] (.own [35, 1] .nil)) rfl <| .g (fun _ τ => ⟨_, .extract (.no rfl) rfl rfl rfl rfl rfl τ⟩) <| .g (fun _ τ => ⟨_, .extract (.no rfl) rfl rfl rfl rfl rfl τ⟩) ?_
   refine .as rfl <| .as rfl <| .z <| .ret ?_
   exact fin0 (.inr rfl) (.one (svI (show (ftN (fitN (0 - a)) (fitO (0 - a))) = (ofN s t a) by first | exact (of_6n c0 c1).1 | exact (of_6n c0 c1).2 | exact (of_6 c0 c1).1 | exact (of_6 c0 c1).2 | exact (of_7 c2).1 | exact (of_7 c2).2 | exact (of_19 c0 c2).1 | exact (of_19 c0 c2).2)) (.one (svI (show (ftC (fitO (0 - a))) = (ofC s t a) by first | exact (of_6n c0 c1).1 | exact (of_6n c0 c1).2 | exact (of_6 c0 c1).1 | exact (of_6 c0 c1).2 | exact (of_7 c2).1 | exact (of_7 c2).2 | exact (of_19 c0 c2).1 | exact (of_19 c0 c2).2)) .nil)) (.dd (.dd .nil)) rfl
  ·have c2 := (by simpa using c2 : ¬ (t.op = 7))
   refine .skip <| .seq <| .rs fun k19 => .mv rfl <| .g (fun _ τ => ⟨_, .binN (.no rfl) rfl (show IntKind.wrap .i64 (1 - a) = 1 - a by (have h9 := h1 c0 c2; exact wrap_le (by omega) (by omega))) rfl rfl rfl rfl rfl τ⟩) <| .as rfl <| .as rfl <| .z <| .ret ?_
   exact fin0 (.inr rfl) (.one (svI (show (1 - a) = (ofN s t a) by first | exact (of_6n c0 c1).1 | exact (of_6n c0 c1).2 | exact (of_6 c0 c1).1 | exact (of_6 c0 c1).2 | exact (of_7 c2).1 | exact (of_7 c2).2 | exact (of_19 c0 c2).1 | exact (of_19 c0 c2).2)) (.one (svI (show (0) = (ofC s t a) by first | exact (of_6n c0 c1).1 | exact (of_6n c0 c1).2 | exact (of_6 c0 c1).1 | exact (of_6 c0 c1).2 | exact (of_7 c2).1 | exact (of_7 c2).2 | exact (of_19 c0 c2).1 | exact (of_19 c0 c2).2)) .nil)) (.dd (.dd .nil)) rfl
end Go.Proofs

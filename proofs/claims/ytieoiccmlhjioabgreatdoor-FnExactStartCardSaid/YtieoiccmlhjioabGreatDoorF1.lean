/- Contracts of the program's functions at this seat, printed by a program of ours and checked by Lean: each under the conditions of its own statement. -/
import Derived.Test.YtieoiccmlhjioabGreatDoorE4
import Derived.Test.YtieoiccmlhjioabGreatDoorE5
import Derived.Test.YtieoiccmlhjioabGreatDoorProg
import Derived.Test.YtieoiccmlhjioabGreatDoorShelf
set_option linter.all false
set_option linter.unnecessarySimpa false
set_option linter.unusedSectionVars false
set_option linter.unusedSimpArgs false
set_option linter.unusedVariables false
namespace Go.Proofs
open Go Go.Proofs Go.Ev
instance : Lay := ⟨[(0, (List.range 256).map fun c => .v (.int .u8 (if Lib.isSp (UInt8.ofNat c) then 1 else 0)))]⟩

def strc (x : ByteArray) : List D := [.v (.string x)]
theorem strc_e (x : ByteArray) : (strc x).map D.erase = strc x := by simp [strc, D.erase_v]
theorem strc_o (x : ByteArray) : ∀ d ∈ strc x, Owned d := by simp [strc, Owned.v]
def Arr.c (x : Arr) : List D := [.v (.string (x.name)), .v (.int .i64 (x.size))]
theorem Arr.c_o (x : Arr) : ∀ d ∈ Arr.c x, Owned d := by simp [Arr.c, Owned.v]
theorem Arr.c_e (x : Arr) : (Arr.c x).map D.erase = Arr.c x := by simp [Arr.c, D.erase_v]
def Decl.c25 (x : Decl) : List D := [.sl false 9 1 (List.map strc (x.vars)), .sl false 9 1 (List.map strc (x.flags)), .sl false 112 2 (List.map Arr.c (x.arrays))]
theorem Decl.c25_e (x : Decl) : (Decl.c25 x).map D.erase = Decl.c25 x := by simp [Decl.c25, D.erase_v, erase_slo _ _ _ _ _ _ strc_e, erase_slo _ _ _ _ _ _ Arr.c_e]
def Decl.co25 (x : Decl) : List D := [.sl true 9 1 (List.map strc (x.vars)), .sl true 9 1 (List.map strc (x.flags)), .sl true 112 2 (List.map Arr.c (x.arrays))]
theorem Decl.co25_e (x : Decl) : (Decl.co25 x).map D.erase = Decl.c25 x := by simp [Decl.co25, Decl.c25, D.erase_v, erase_slo _ _ _ _ _ _ strc_e, erase_slo _ _ _ _ _ _ Arr.c_e]
theorem Decl.co25_o (x : Decl) : ∀ d ∈ Decl.co25 x, Owned d := by simp [Decl.co25, Owned.v, Owned.map _ _ _ _ strc_o, Owned.map _ _ _ _ Arr.c_o]
def Iv.c (x : Iv) : List D := [.v (.int .i64 (x.lo)), .v (.int .i64 (x.hi))]
theorem Iv.c_o (x : Iv) : ∀ d ∈ Iv.c x, Owned d := by simp [Iv.c, Owned.v]
theorem Iv.c_e (x : Iv) : (Iv.c x).map D.erase = Iv.c x := by simp [Iv.c, D.erase_v]
def Env.c55 (x : Env) : List D := [.v (.bool (x.live)), .sl false 148 2 (List.map Iv.c (x.ints)), .sl false 148 2 (List.map Iv.c (x.arrs))]
theorem Env.c55_e (x : Env) : (Env.c55 x).map D.erase = Env.c55 x := by simp [Env.c55, D.erase_v, erase_slo _ _ _ _ _ _ Iv.c_e]
def Env.co55 (x : Env) : List D := [.v (.bool (x.live)), .sl true 148 2 (List.map Iv.c (x.ints)), .sl true 148 2 (List.map Iv.c (x.arrs))]
theorem Env.co55_e (x : Env) : (Env.co55 x).map D.erase = Env.c55 x := by simp [Env.co55, Env.c55, D.erase_v, erase_slo _ _ _ _ _ _ Iv.c_e]
theorem Env.co55_o (x : Env) : ∀ d ∈ Env.co55 x, Owned d := by simp [Env.co55, Owned.v, Owned.map _ _ _ _ Iv.c_o]
def Decl.c34 (x : Decl) : List D := [.sl false 9 1 (List.map strc (x.vars)), .sl false 9 1 (List.map strc (x.flags)), .sl false 115 2 (List.map Arr.c (x.arrays))]
theorem Decl.c34_e (x : Decl) : (Decl.c34 x).map D.erase = Decl.c34 x := by simp [Decl.c34, D.erase_v, erase_slo _ _ _ _ _ _ strc_e, erase_slo _ _ _ _ _ _ Arr.c_e]
def Decl.co34 (x : Decl) : List D := [.sl true 9 1 (List.map strc (x.vars)), .sl true 9 1 (List.map strc (x.flags)), .sl true 115 2 (List.map Arr.c (x.arrays))]
theorem Decl.co34_e (x : Decl) : (Decl.co34 x).map D.erase = Decl.c34 x := by simp [Decl.co34, Decl.c34, D.erase_v, erase_slo _ _ _ _ _ _ strc_e, erase_slo _ _ _ _ _ _ Arr.c_e]
theorem Decl.co34_o (x : Decl) : ∀ d ∈ Decl.co34 x, Owned d := by simp [Decl.co34, Owned.v, Owned.map _ _ _ _ strc_o, Owned.map _ _ _ _ Arr.c_o]
def i2 : TI := ⟨.int .i64, 1, 8, [.int .i64 0]⟩
theorem t2 : TyOk Tryz.prog 2 i2 := ⟨Tryz.underlying2, by kernel_rfl⟩
theorem z2 : ZOk Tryz.prog 2 i2 := ⟨t2, rfl⟩
def i4 : TI := ⟨.bool, 1, 1, [.bool false]⟩
theorem t4 : TyOk Tryz.prog 4 i4 := ⟨Tryz.underlying4, by kernel_rfl⟩
theorem z4 : ZOk Tryz.prog 4 i4 := ⟨t4, rfl⟩
def i9 : TI := ⟨.str, 1, 16, [.string .empty]⟩
theorem t9 : TyOk Tryz.prog 9 i9 := ⟨Tryz.underlying9, by kernel_rfl⟩
theorem z9 : ZOk Tryz.prog 9 i9 := ⟨t9, rfl⟩
def i22 : TI := ⟨.sl 9, 1, 24, [.slice none 0 0]⟩
theorem t22 : TyOk Tryz.prog 22 i22 := ⟨Tryz.underlying22, by kernel_rfl⟩
theorem z22 : ZOk Tryz.prog 22 i22 := ⟨t22, rfl⟩
def i23 : TI := ⟨.sl 112, 1, 24, [.slice none 0 0]⟩
theorem t23 : TyOk Tryz.prog 23 i23 := ⟨Tryz.underlying23, by kernel_rfl⟩
theorem z23 : ZOk Tryz.prog 23 i23 := ⟨t23, rfl⟩
def i25 : TI := ⟨.st [(0, 22), (1, 22), (2, 23)], 3, 72, [.slice none 0 0, .slice none 0 0, .slice none 0 0]⟩
theorem t25 : TyOk Tryz.prog 25 i25 := ⟨⟨_, Tryz.underlying25, rfl⟩, by kernel_rfl⟩
theorem z25 : ZOk Tryz.prog 25 i25 := ⟨t25, rfl⟩
theorem p25 : Places Tryz.prog [(0, 22), (1, 22), (2, 23)] [(0, 1), (1, 1), (2, 1)] := by unfold Places; kernel_rfl
def i32 : TI := ⟨.sl 115, 1, 24, [.slice none 0 0]⟩
theorem t32 : TyOk Tryz.prog 32 i32 := ⟨Tryz.underlying32, by kernel_rfl⟩
theorem z32 : ZOk Tryz.prog 32 i32 := ⟨t32, rfl⟩
def i34 : TI := ⟨.st [(0, 22), (1, 22), (2, 32)], 3, 72, [.slice none 0 0, .slice none 0 0, .slice none 0 0]⟩
theorem t34 : TyOk Tryz.prog 34 i34 := ⟨⟨_, Tryz.underlying34, rfl⟩, by kernel_rfl⟩
theorem z34 : ZOk Tryz.prog 34 i34 := ⟨t34, rfl⟩
theorem p34 : Places Tryz.prog [(0, 22), (1, 22), (2, 32)] [(0, 1), (1, 1), (2, 1)] := by unfold Places; kernel_rfl
def i53 : TI := ⟨.sl 148, 1, 24, [.slice none 0 0]⟩
theorem t53 : TyOk Tryz.prog 53 i53 := ⟨Tryz.underlying53, by kernel_rfl⟩
theorem z53 : ZOk Tryz.prog 53 i53 := ⟨t53, rfl⟩
def i55 : TI := ⟨.st [(0, 4), (1, 53), (2, 53)], 3, 56, [.bool false, .slice none 0 0, .slice none 0 0]⟩
theorem t55 : TyOk Tryz.prog 55 i55 := ⟨⟨_, Tryz.underlying55, rfl⟩, by kernel_rfl⟩
theorem z55 : ZOk Tryz.prog 55 i55 := ⟨t55, rfl⟩
theorem p55 : Places Tryz.prog [(0, 4), (1, 53), (2, 53)] [(0, 1), (1, 1), (2, 1)] := by unfold Places; kernel_rfl
def i112 : TI := ⟨.st [(0, 9), (1, 2)], 2, 24, [.string .empty, .int .i64 0]⟩
theorem t112 : TyOk Tryz.prog 112 i112 := ⟨⟨_, Tryz.underlying112, rfl⟩, by kernel_rfl⟩
theorem z112 : ZOk Tryz.prog 112 i112 := ⟨t112, rfl⟩
theorem p112 : Places Tryz.prog [(0, 9), (1, 2)] [(0, 1), (1, 1)] := by unfold Places; kernel_rfl
def i115 : TI := ⟨.st [(0, 9), (1, 2)], 2, 24, [.string .empty, .int .i64 0]⟩
theorem t115 : TyOk Tryz.prog 115 i115 := ⟨⟨_, Tryz.underlying115, rfl⟩, by kernel_rfl⟩
theorem z115 : ZOk Tryz.prog 115 i115 := ⟨t115, rfl⟩
theorem p115 : Places Tryz.prog [(0, 9), (1, 2)] [(0, 1), (1, 1)] := by unfold Places; kernel_rfl
def i148 : TI := ⟨.st [(0, 2), (1, 2)], 2, 16, [.int .i64 0, .int .i64 0]⟩
theorem t148 : TyOk Tryz.prog 148 i148 := ⟨⟨_, Tryz.underlying148, rfl⟩, by kernel_rfl⟩
theorem z148 : ZOk Tryz.prog 148 i148 := ⟨t148, rfl⟩
theorem p148 : Places Tryz.prog [(0, 2), (1, 2)] [(0, 1), (1, 1)] := by unfold Places; kernel_rfl
theorem c_szStringS (a : List ByteArray) (left : Int) (hl : 0 ≤ left ∧ left ≤ 1048576) (hw : ∀ x ∈ a, 0 ≤ strW x ∧ strW x ≤ 9223372036854775807) : Trip Tryz.prog 38 [(false, 1), (false, 1)] ([.sl false 9 1 (List.map strc (a))] ++ [.v (.int .i64 (left))]) [(false, 1)] [.v (.int .i64 (szL strW a left))] [] := by
 refine Trip.of Tryz.func38 (by decide) (c := _) rfl rfl (Nat.le_of_ble_eq_true rfl) rfl (AftOk.nil _) <| .sl (t := 0) rfl fun hs1l => .seq <| .rs fun k2 => .as rfl <| .z <| .seq <| .rs fun k3 => .mv rfl ?_
 refine .mv rfl <| .g (fun _ τ => ⟨_, .len (.no rfl) rfl (z := (a.length : Int)) t22 rfl rfl rfl (.d _ _) (map_len _ _) rfl τ⟩) <| .bi rfl <| .as rfl <| .z <| .seq <| .seq <| .rs fun k4 => .mv rfl ?_
 refine .bi rfl <| .z ?_
 refine .cond (t := decide ((IntKind.wrap .i64 (left - (a.length : Int))) < 0)) rfl (fun c0 => ?_) (fun c0 => ?_)
 ·have c0 := of_decide_eq_true c0
  refine .seq <| .rs fun k5 => .as rfl <| .z <| .ret ?_
  exact fin0 (.inr rfl) (.one (svI (show (-1) = (szL strW a left) by (rw [wrap_le (by omega) (by omega)] at c0; simp only [szL]; rw [if_pos c0]))) .nil) (.dd .nil) rfl
 ·have c0 := of_decide_eq_false c0
  refine .skip <| .seq <| .seq <| .rs fun k7 => .as rfl <| .z <| .block ?_
  refine .loop (X := Nat × Int) (fun ζ => .of [(0, .one (.d (.sl false 9 1 (List.map strc (a))))), (1, .one (.d (.v (.int .i64 (ζ.2))))), (5, .one (.d (.v (.int .i64 ((ζ.1 : Int))))))] []) (fun ζ => ζ.1 ≤ a.length ∧ 0 ≤ ζ.2 ∧ ζ.2 ≤ 1048576 ∧ ¬ left - a.length < 0 ∧ szGo strW ζ.2 (a.drop ζ.1) = szGo strW (left - a.length) a) (fun ζ => a.length - ζ.1) ?_ ?_
  ·skip
   exact .here (0, (left - a.length)) (.of (.cons rfl (.cons (svI (show (IntKind.wrap .i64 (left - (a.length : Int))) = ((left - a.length)) by first | rfl | omega | exact wrap_le (by omega) (by omega) | (rw [wrap_le (by omega) (by omega)]; omega) | (have hx : 0 ≤ strW (a.getD j default) ∧ strW (a.getD j default) ≤ 9223372036854775807 := hw _ (getD_mem (by omega)); exact wrap_le (a := v - strW (a.getD j default)) (by omega) (by omega)))) (.cons (svI (show (0) = ((0 : Int)) by first | rfl | omega | exact wrap_le (by omega) (by omega) | (rw [wrap_le (by omega) (by omega)]; omega) | (have hx : 0 ≤ strW (a.getD j default) ∧ strW (a.getD j default) ≤ 9223372036854775807 := hw _ (getD_mem (by omega)); exact wrap_le (a := v - strW (a.getD j default)) (by omega) (by omega)))) .nil))) .nil) (show 0 ≤ a.length ∧ 0 ≤ (left - a.length) ∧ (left - a.length) ≤ 1048576 ∧ ¬ left - a.length < 0 ∧ szGo strW (left - a.length) (a.drop 0) = szGo strW (left - a.length) a by (rw [wrap_le (by omega) (by omega)] at c0; exact ⟨by omega, by omega, by omega, c0, by simp⟩))
  ·rintro ⟨j, v⟩ hI
   have hI : j ≤ a.length ∧ 0 ≤ v ∧ v ≤ 1048576 ∧ ¬ left - a.length < 0 ∧ szGo strW v (a.drop j) = szGo strW (left - a.length) a := hI
   dsimp only
   refine .seq <| .seq <| .rs fun k8 => .mv rfl <| .mv rfl <| .g (fun _ τ => ⟨_, .len (.no rfl) rfl (z := (a.length : Int)) t22 rfl rfl rfl (.d _ _) (map_len _ _) rfl τ⟩) <| .bi rfl <| .z ?_
   refine .cond (t := decide ((j : Int) < (a.length : Int))) rfl (fun c1 => ?_) (fun c1 => ?_)
   ·have c1 := of_decide_eq_true c1
    refine .skip <| .seq <| .block <| .seq <| .rs fun k9 => .mv rfl <| .mv rfl <| .mv rfl <| .g (fun _ τ => ⟨_, .indexAddr (.no rfl) rfl (j) t22 rfl t9 rfl rfl rfl (.d _ _) rfl rfl rfl (map_get (by omega)) rfl rfl τ⟩) ?_
    refine .ld t9 rfl (.d _) rfl <| .g (fun _ τ => ⟨_, .lenStr (.no rfl) rfl t9 rfl rfl rfl rfl rfl τ⟩) <| .bi rfl <| .as rfl <| .z <| .seq <| .rs fun k10 => .mv rfl <| .bi rfl ?_
    refine .z ?_
    refine .cond (t := decide ((IntKind.wrap .i64 (v - ((a.getD j default).size : Int))) < 0)) rfl (fun c2 => ?_) (fun c2 => ?_)
    ·have c2 := of_decide_eq_true c2
     refine .seq <| .rs fun k11 => .as rfl <| .z <| .ret ?_
     exact fin0 (.inr rfl) (.one (svI (show (-1) = (szL strW a left) by (have hx : 0 ≤ strW (a.getD j default) ∧ strW (a.getD j default) ≤ 9223372036854775807 := hw _ (getD_mem (by omega)); change IntKind.wrap .i64 (v - strW (a.getD j default)) < 0 at c2; rw [wrap_le (by omega) (by omega)] at c2; simp only [szL]; rw [if_neg hI.2.2.2.1, ← hI.2.2.2.2, szGo_fail (by omega) c2]))) .nil) (.dd .nil) rfl
    ·have c2 := of_decide_eq_false c2
     refine .skip <| .rs fun k13 => .mv rfl <| .bi rfl <| .as rfl <| .z ?_
     exact .here ((j + 1), (v - strW (a.getD j default))) (.of (.cons rfl (.cons (svI (show (IntKind.wrap .i64 (v - ((a.getD j default).size : Int))) = ((v - strW (a.getD j default))) by first | rfl | omega | exact wrap_le (by omega) (by omega) | (rw [wrap_le (by omega) (by omega)]; omega) | (have hx : 0 ≤ strW (a.getD j default) ∧ strW (a.getD j default) ≤ 9223372036854775807 := hw _ (getD_mem (by omega)); exact wrap_le (a := v - strW (a.getD j default)) (by omega) (by omega)))) (.cons (svI (show (IntKind.wrap .i64 ((j : Int) + 1)) = (((j + 1) : Int)) by first | rfl | omega | exact wrap_le (by omega) (by omega) | (rw [wrap_le (by omega) (by omega)]; omega) | (have hx : 0 ≤ strW (a.getD j default) ∧ strW (a.getD j default) ≤ 9223372036854775807 := hw _ (getD_mem (by omega)); exact wrap_le (a := v - strW (a.getD j default)) (by omega) (by omega)))) .nil))) .nil) ⟨(show (j + 1) ≤ a.length ∧ 0 ≤ (v - strW (a.getD j default)) ∧ (v - strW (a.getD j default)) ≤ 1048576 ∧ ¬ left - a.length < 0 ∧ szGo strW (v - strW (a.getD j default)) (a.drop (j + 1)) = szGo strW (left - a.length) a by (have hx : 0 ≤ strW (a.getD j default) ∧ strW (a.getD j default) ≤ 9223372036854775807 := hw _ (getD_mem (by omega)); change ¬ IntKind.wrap .i64 (v - strW (a.getD j default)) < 0 at c2; rw [wrap_le (by omega) (by omega)] at c2; exact ⟨by omega, by omega, by omega, hI.2.2.2.1, by rw [← hI.2.2.2.2]; exact (szGo_step (by omega) c2).symm⟩)), (show a.length - (j + 1) < a.length - j by omega)⟩
   ·have c1 := of_decide_eq_false c1
    refine .exit <| .seq <| .rs fun k14 => .mv rfl <| .as rfl <| .z <| .ret ?_
    exact fin0 (.inr rfl) (.one (svI (show (v) = (szL strW a left) by (simp only [szL]; rw [if_neg hI.2.2.2.1, ← hI.2.2.2.2, szGo_end (by omega)]))) .nil) (.dd .nil) rfl
theorem c_szArr (a : Arr) (left : Int) (hl : 0 ≤ left ∧ left ≤ 1048576) (hw : a.name.size ≤ 9223372036854775807) : Trip Tryz.prog 67 [(true, 2), (false, 1)] (Arr.c a ++ [.v (.int .i64 (left))]) [(false, 1)] [.v (.int .i64 (szA a left))] [] := by
 refine Trip.of Tryz.func67 (by decide) (c := _) rfl rfl (Nat.le_of_ble_eq_true rfl) rfl (AftOk.nil _) <| .seq <| .rs fun k1 => .g (fun _ τ => ⟨_, .box (.no rfl) rfl rfl rfl rfl rfl τ⟩) <| .as rfl <| .z <| .seq <| .rs fun k2 => .mv rfl ?_
 refine .fp t112 t9 rfl <| .ld t9 rfl (.ptr _ _ _ _ _ rfl) rfl <| .g (fun _ τ => ⟨_, .lenStr (.no rfl) rfl t9 rfl rfl rfl rfl rfl τ⟩) <| .bi rfl <| .as rfl <| .z <| .seq <| .seq <| .rs fun k3 => ?_
 refine .mv rfl <| .bi rfl <| .z ?_
 refine .cond (t := decide ((IntKind.wrap .i64 (left - (a.name.size : Int))) < 0)) rfl (fun c0 => ?_) (fun c0 => ?_)
 ·have c0 := of_decide_eq_true c0
  refine .seq <| .rs fun k4 => .as rfl <| .z <| .ret ?_
  exact fin0 (.inr rfl) (.one (svI (show (-1) = (szA a left) by (rw [wrap_le (by omega) (by omega)] at c0; simp only [szA]; rw [if_pos c0]))) .nil) (.dd .nil) rfl
 ·have c0 := of_decide_eq_false c0
  refine .skip <| .seq <| .rs fun k6 => .mv rfl <| .as rfl <| .z <| .ret ?_
  exact fin0 (.inr rfl) (.one (svI (show (IntKind.wrap .i64 (left - (a.name.size : Int))) = (szA a left) by (rw [wrap_le (by omega) (by omega)] at c0 ⊢; simp only [szA]; rw [if_neg c0]))) .nil) (.dd .nil) rfl
theorem c_szArrS (a : List Arr) (left : Int) (hl : 0 ≤ left ∧ left ≤ 1048576) (hw : ∀ x ∈ a, 0 ≤ arrW x ∧ arrW x ≤ 9223372036854775807) : Trip Tryz.prog 39 [(false, 1), (false, 1)] ([.sl false 112 2 (List.map Arr.c (a))] ++ [.v (.int .i64 (left))]) [(false, 1)] [.v (.int .i64 (szL arrW a left))] [] := by
 refine Trip.of Tryz.func39 (by decide) (c := _) rfl rfl (Nat.le_of_ble_eq_true rfl) rfl (AftOk.nil _) <| .sl (t := 0) rfl fun hs1l => .seq <| .rs fun k2 => .as rfl <| .z <| .seq <| .rs fun k3 => .mv rfl ?_
 refine .mv rfl <| .g (fun _ τ => ⟨_, .len (.no rfl) rfl (z := (a.length : Int)) t23 rfl rfl rfl (.d _ _) (map_len _ _) rfl τ⟩) <| .bi rfl <| .as rfl <| .z <| .seq <| .seq <| .rs fun k4 => .mv rfl ?_
 refine .bi rfl <| .z ?_
 refine .cond (t := decide ((IntKind.wrap .i64 (left - (a.length : Int))) < 0)) rfl (fun c0 => ?_) (fun c0 => ?_)
 ·have c0 := of_decide_eq_true c0
  refine .seq <| .rs fun k5 => .as rfl <| .z <| .ret ?_
  exact fin0 (.inr rfl) (.one (svI (show (-1) = (szL arrW a left) by (rw [wrap_le (by omega) (by omega)] at c0; simp only [szL]; rw [if_pos c0]))) .nil) (.dd .nil) rfl
 ·have c0 := of_decide_eq_false c0
  refine .skip <| .seq <| .seq <| .rs fun k7 => .as rfl <| .z <| .block ?_
  refine .loop (X := Nat × Int) (fun ζ => .of [(0, .one (.d (.sl false 112 2 (List.map Arr.c (a))))), (1, .one (.d (.v (.int .i64 (ζ.2))))), (5, .one (.d (.v (.int .i64 ((ζ.1 : Int))))))] []) (fun ζ => ζ.1 ≤ a.length ∧ 0 ≤ ζ.2 ∧ ζ.2 ≤ 1048576 ∧ ¬ left - a.length < 0 ∧ szGo arrW ζ.2 (a.drop ζ.1) = szGo arrW (left - a.length) a) (fun ζ => a.length - ζ.1) ?_ ?_
  ·skip
   exact .here (0, (left - a.length)) (.of (.cons rfl (.cons (svI (show (IntKind.wrap .i64 (left - (a.length : Int))) = ((left - a.length)) by first | rfl | omega | exact wrap_le (by omega) (by omega) | (rw [wrap_le (by omega) (by omega)]; omega) | (rw [szA_neg] at c2; simp only [szA, arrW] at c2 ⊢; rw [if_neg c2]))) (.cons (svI (show (0) = ((0 : Int)) by first | rfl | omega | exact wrap_le (by omega) (by omega) | (rw [wrap_le (by omega) (by omega)]; omega) | (rw [szA_neg] at c2; simp only [szA, arrW] at c2 ⊢; rw [if_neg c2]))) .nil))) .nil) (show 0 ≤ a.length ∧ 0 ≤ (left - a.length) ∧ (left - a.length) ≤ 1048576 ∧ ¬ left - a.length < 0 ∧ szGo arrW (left - a.length) (a.drop 0) = szGo arrW (left - a.length) a by (rw [wrap_le (by omega) (by omega)] at c0; exact ⟨by omega, by omega, by omega, c0, by simp⟩))
  ·rintro ⟨j, v⟩ hI
   have hI : j ≤ a.length ∧ 0 ≤ v ∧ v ≤ 1048576 ∧ ¬ left - a.length < 0 ∧ szGo arrW v (a.drop j) = szGo arrW (left - a.length) a := hI
   dsimp only
   refine .seq <| .seq <| .rs fun k8 => .mv rfl <| .mv rfl <| .g (fun _ τ => ⟨_, .len (.no rfl) rfl (z := (a.length : Int)) t23 rfl rfl rfl (.d _ _) (map_len _ _) rfl τ⟩) <| .bi rfl <| .z ?_
   refine .cond (t := decide ((j : Int) < (a.length : Int))) rfl (fun c1 => ?_) (fun c1 => ?_)
   ·have c1 := of_decide_eq_true c1
    refine .skip <| .seq <| .block <| .seq <| .rs fun k9 => .mv rfl <| .mv rfl <| .g (fun _ τ => ⟨_, .indexAddr (.no rfl) rfl (j) t23 rfl t112 rfl rfl rfl (.d _ _) rfl rfl rfl (map_get (by omega)) rfl rfl τ⟩) <| .lda t112 rfl (.d _) rfl ?_
    refine .mv rfl <| .c0 (c_szArr (a.getD j default) v (by first | exact ⟨hI.2.1, hI.2.2.1⟩ | (have hx := (hw _ (getD_mem (j := j) (by omega))).2; simp only [arrW] at hx; omega)) (by first | exact ⟨hI.2.1, hI.2.2.1⟩ | (have hx := (hw _ (getD_mem (j := j) (by omega))).2; simp only [arrW] at hx; omega))) rfl (.dd (.dd (.dd .nil))) (.own [23, 0] .nil) rfl <| .as rfl <| .z <| .seq <| .rs fun k10 => .mv rfl <| .bi rfl <| .z ?_
    refine .cond (t := decide ((szA (a.getD j default) v) < 0)) rfl (fun c2 => ?_) (fun c2 => ?_)
    ·have c2 := of_decide_eq_true c2
     refine .seq <| .rs fun k11 => .as rfl <| .z <| .ret ?_
     exact fin0 (.inr rfl) (.one (svI (show (-1) = (szL arrW a left) by (rw [szA_neg] at c2; simp only [szL]; rw [if_neg hI.2.2.2.1, ← hI.2.2.2.2, szGo_fail (by omega) c2]))) .nil) (.dd .nil) rfl
    ·have c2 := of_decide_eq_false c2
     refine .skip <| .rs fun k13 => .mv rfl <| .bi rfl <| .as rfl <| .z ?_
     exact .here ((j + 1), (v - arrW (a.getD j default))) (.of (.cons rfl (.cons (svI (show (szA (a.getD j default) v) = ((v - arrW (a.getD j default))) by first | rfl | omega | exact wrap_le (by omega) (by omega) | (rw [wrap_le (by omega) (by omega)]; omega) | (rw [szA_neg] at c2; simp only [szA, arrW] at c2 ⊢; rw [if_neg c2]))) (.cons (svI (show (IntKind.wrap .i64 ((j : Int) + 1)) = (((j + 1) : Int)) by first | rfl | omega | exact wrap_le (by omega) (by omega) | (rw [wrap_le (by omega) (by omega)]; omega) | (rw [szA_neg] at c2; simp only [szA, arrW] at c2 ⊢; rw [if_neg c2]))) .nil))) .nil) ⟨(show (j + 1) ≤ a.length ∧ 0 ≤ (v - arrW (a.getD j default)) ∧ (v - arrW (a.getD j default)) ≤ 1048576 ∧ ¬ left - a.length < 0 ∧ szGo arrW (v - arrW (a.getD j default)) (a.drop (j + 1)) = szGo arrW (left - a.length) a by (have hx : 0 ≤ arrW (a.getD j default) ∧ arrW (a.getD j default) ≤ 9223372036854775807 := hw _ (getD_mem (by omega)); rw [szA_neg] at c2; exact ⟨by omega, by omega, by omega, hI.2.2.2.1, by rw [← hI.2.2.2.2]; exact (szGo_step (by omega) c2).symm⟩)), (show a.length - (j + 1) < a.length - j by omega)⟩
   ·have c1 := of_decide_eq_false c1
    refine .exit <| .seq <| .rs fun k14 => .mv rfl <| .as rfl <| .z <| .ret ?_
    exact fin0 (.inr rfl) (.one (svI (show (v) = (szL arrW a left) by (simp only [szL]; rw [if_neg hI.2.2.2.1, ← hI.2.2.2.2, szGo_end (by omega)]))) .nil) (.dd .nil) rfl
theorem c_szDecl (a : Decl) (left : Int) (hl : 0 ≤ left ∧ left ≤ 1048576) (hv : ∀ x ∈ a.vars, 0 ≤ strW x ∧ strW x ≤ 9223372036854775807) (hf : ∀ x ∈ a.flags, 0 ≤ strW x ∧ strW x ≤ 9223372036854775807) (ha : ∀ x ∈ a.arrays, 0 ≤ arrW x ∧ arrW x ≤ 9223372036854775807) : Trip Tryz.prog 19 [(true, 3), (false, 1)] (Decl.c25 a ++ [.v (.int .i64 (left))]) [(false, 1)] [.v (.int .i64 (szDecl a left))] [] := by
 refine Trip.of Tryz.func19 (by decide) (c := _) rfl rfl (Nat.le_of_ble_eq_true rfl) rfl (AftOk.nil _) <| .sla (t := 0) 0 rfl rfl fun hs1l => .sla (t := 0) 1 rfl rfl fun hs2l => .sla (t := 0) 2 rfl rfl fun hs3l => .seq <| .rs fun k4 => .g (fun _ τ => ⟨_, .box (.no rfl) rfl rfl rfl rfl rfl τ⟩) <| .as rfl <| .z ?_
 refine .seq <| .rs fun k5 => .fp t25 t22 rfl <| .ld t22 rfl (.ptr _ _ _ _ _ rfl) rfl <| .mv rfl <| .c0 (c_szStringS a.vars left (by first | assumption | exact ⟨by omega, szL_le (by omega) ‹_› (by first | omega | exact szL_le (by omega) ‹_› (by omega))⟩) (by first | assumption | exact ⟨by omega, szL_le (by omega) ‹_› (by first | omega | exact szL_le (by omega) ‹_› (by omega))⟩)) rfl (.dd (.dd .nil)) (.own [8, 0] .nil) rfl <| .as rfl <| .z <| .seq ?_
 refine .seq <| .rs fun k6 => .mv rfl <| .bi rfl <| .z ?_
 refine .cond (t := decide ((szL strW a.vars left) < 0)) rfl (fun c0 => ?_) (fun c0 => ?_)
 ·have c0 := of_decide_eq_true c0
  refine .seq <| .rs fun k7 => .as rfl <| .z <| .ret ?_
  exact fin0 (.inr rfl) (.one (svI (show (-1) = (szDecl a left) by (simp only [szDecl]; rw [if_pos c0]))) .nil) (.dd .nil) rfl
 ·have c0 := of_decide_eq_false c0
  refine .skip <| .seq <| .rs fun k9 => .fp t25 t22 rfl <| .ld t22 rfl (.ptr _ _ _ _ _ rfl) rfl <| .mv rfl <| .c0 (c_szStringS a.flags (szL strW a.vars left) (by first | assumption | exact ⟨by omega, szL_le (by omega) ‹_› (by first | omega | exact szL_le (by omega) ‹_› (by omega))⟩) (by first | assumption | exact ⟨by omega, szL_le (by omega) ‹_› (by first | omega | exact szL_le (by omega) ‹_› (by omega))⟩)) rfl (.dd (.dd .nil)) (.own [14, 0] .nil) rfl <| .as rfl <| .z ?_
  refine .seq <| .seq <| .rs fun k10 => .mv rfl <| .bi rfl <| .z ?_
  refine .cond (t := decide ((szL strW a.flags (szL strW a.vars left)) < 0)) rfl (fun c1 => ?_) (fun c1 => ?_)
  ·have c1 := of_decide_eq_true c1
   refine .seq <| .rs fun k11 => .as rfl <| .z <| .ret ?_
   exact fin0 (.inr rfl) (.one (svI (show (-1) = (szDecl a left) by (simp only [szDecl]; rw [if_neg c0, if_pos c1]))) .nil) (.dd .nil) rfl
  ·have c1 := of_decide_eq_false c1
   refine .skip <| .seq <| .rs fun k13 => .fp t25 t23 rfl <| .ld t23 rfl (.ptr _ _ _ _ _ rfl) rfl <| .mv rfl <| .c0 (c_szArrS a.arrays (szL strW a.flags (szL strW a.vars left)) (by first | assumption | exact ⟨by omega, szL_le (by omega) ‹_› (by first | omega | exact szL_le (by omega) ‹_› (by omega))⟩) (by first | assumption | exact ⟨by omega, szL_le (by omega) ‹_› (by first | omega | exact szL_le (by omega) ‹_› (by omega))⟩)) rfl (.dd (.dd .nil)) (.own [20, 0] .nil) rfl <| .as rfl <| .z ?_
   refine .seq <| .seq <| .rs fun k14 => .mv rfl <| .bi rfl <| .z ?_
   refine .cond (t := decide ((szL arrW a.arrays (szL strW a.flags (szL strW a.vars left))) < 0)) rfl (fun c2 => ?_) (fun c2 => ?_)
   ·have c2 := of_decide_eq_true c2
    refine .seq <| .rs fun k15 => .as rfl <| .z <| .ret ?_
    exact fin0 (.inr rfl) (.one (svI (show (-1) = (szDecl a left) by (simp only [szDecl]; rw [if_neg c0, if_neg c1, if_pos c2]))) .nil) (.dd .nil) rfl
   ·have c2 := of_decide_eq_false c2
    refine .skip <| .seq <| .rs fun k17 => .mv rfl <| .as rfl <| .z <| .ret ?_
    exact fin0 (.inr rfl) (.one (svI (show (szL arrW a.arrays (szL strW a.flags (szL strW a.vars left))) = (szDecl a left) by (simp only [szDecl]; rw [if_neg c0, if_neg c1, if_neg c2]))) .nil) (.dd .nil) rfl
theorem c_toArr (a : Arr) : Trip Tryz.prog 76 [(true, 2)] (Arr.c a) [(true, 2)] [.v (.string (a.name)), .v (.int .i64 (a.size))] [] := by
 refine Trip.of Tryz.func76 (by decide) (c := _) rfl rfl (Nat.le_of_ble_eq_true rfl) rfl (AftOk.nil _) <| .seq <| .rs fun k1 => .g (fun _ τ => ⟨_, .box (.no rfl) rfl rfl rfl rfl rfl τ⟩) <| .g (fun _ τ => ⟨_, .alloc (.no rfl) rfl z115 rfl rfl rfl τ⟩) <| .z <| .seq <| .rs fun k2 => .g (fun _ τ => ⟨_, .alloc (.no rfl) rfl z115 rfl rfl rfl τ⟩) ?_
 refine .z <| .seq <| .rs fun k3 => .fp t112 t9 rfl <| .ld t9 rfl (.ptr _ _ _ _ _ rfl) rfl <| .fp t115 t9 rfl <| .g (fun _ τ => ⟨_, .store (.no rfl) rfl t9 rfl rfl rfl rfl rfl rfl rfl rfl rfl τ⟩) <| .z <| .seq ?_
 refine .rs fun k4 => .fp t112 t2 rfl <| .ld t2 rfl (.ptr _ _ _ _ _ rfl) rfl <| .fp t115 t2 rfl <| .g (fun _ τ => ⟨_, .store (.no rfl) rfl t2 rfl rfl rfl rfl rfl rfl rfl rfl rfl τ⟩) <| .z <| .seq <| .rs fun k5 => .lda t115 rfl (.ptr _ _ _ _ _ rfl) rfl ?_
 refine .g (fun _ τ => ⟨_, .store (.no rfl) rfl t115 rfl rfl rfl rfl rfl rfl rfl rfl rfl τ⟩) <| .z <| .ret ?_
 exact fin0 (.inr rfl) (.cell (cells := [.d (.v (.string (a.name))), .d (.v (.int .i64 (a.size)))]) rfl rfl t115 rfl rfl .nil) (.dd (.dd .nil)) rfl
theorem c_toStringS (a : List ByteArray) (hb : a.length ≤ 1048576) : Trip Tryz.prog 45 [(false, 1)] ([.sl false 9 1 (List.map strc (a))]) [(false, 1)] [.sl true 9 1 (List.map strc (a))] [] := by
 refine Trip.of Tryz.func45 (by decide) (c := _) rfl rfl (Nat.le_of_ble_eq_true rfl) rfl (AftOk.nil _) <| .sl (t := 0) rfl fun hs1l => .seq <| .rs fun k2 => .as rfl <| .z <| .seq <| .rs fun k3 => .mv rfl ?_
 refine .g (fun _ τ => ⟨_, .len (.no rfl) rfl (z := (a.length : Int)) t22 rfl rfl rfl (.d _ _) (map_len _ _) rfl τ⟩) <| .g (fun _ τ => ⟨_, .makeSlice (.no rfl) rfl (n0 := a.length) (els := List.map strc (List.replicate a.length .empty)) t22 rfl z9 rfl rfl rfl rfl rfl (by (simp [i9]; omega)) (by omega) (rep_map _ _ _ rfl) rfl τ⟩) <| .as rfl <| .z <| .seq <| .seq <| .rs fun k4 => .as rfl <| .z ?_
 refine .block ?_
 refine .loop (X := Nat × Nat × Nat) (fun ζ => .of [(0, .one (.d (.sl false 9 1 (List.map strc (a))))), (3, .one (.ref [7] (ζ.2.1))), (4, .one (.d (.v (.int .i64 ((ζ.1 : Int))))))] [([7], (ζ.2.1, ζ.2.2, .row 9 1 (List.map strc (fillTo a (.empty) ζ.1))))]) (fun ζ => ζ.1 ≤ a.length) (fun ζ => a.length - ζ.1) ?_ ?_
 ·skip
  exact .here (0, (k3 + 1 + 1), (k3 + 1 + 1)) (.of (.cons rfl (.cons (by show SV.one (.ref [7] (k3 + 1 + 1)) = SV.one (.ref [7] ((k3 + 1 + 1))); first | rfl | simp_all) (.cons (svI (show (0) = ((0 : Int)) by first | rfl | omega | exact wrap_le (by omega) (by omega) | (rw [wrap_le (by omega) (by omega)]; omega))) .nil))) (.cons (rowE (show List.map strc (List.replicate a.length .empty) = List.map strc (fillTo a (.empty) 0) by first | rfl | (rw [fillTo_zero]) | (rw [fillTo_step _ _ _ (by omega) rfl]))) .nil)) (show 0 ≤ a.length by omega)
 ·rintro ⟨j, q5, q6⟩ hI
  have hI : j ≤ a.length := hI
  dsimp only
  refine .seq <| .seq <| .rs fun k7 => .mv rfl <| .mv rfl <| .g (fun _ τ => ⟨_, .len (.no rfl) rfl (z := (a.length : Int)) t22 rfl rfl rfl (.d _ _) (map_len _ _) rfl τ⟩) <| .bi rfl <| .z ?_
  refine .cond (t := decide ((j : Int) < (a.length : Int))) rfl (fun c0 => ?_) (fun c0 => ?_)
  ·have c0 := of_decide_eq_true c0
   refine .skip <| .seq <| .block <| .rs fun k8 => .mv rfl <| .mv rfl <| .mv rfl <| .mv rfl <| .g (fun _ τ => ⟨_, .indexAddr (.no rfl) rfl (j) t22 rfl t9 rfl rfl rfl (.d _ _) rfl rfl rfl (map_get (by first | omega | (rw [fillTo_len]; omega))) rfl rfl τ⟩) ?_
   refine .ld t9 rfl (.d _) rfl <| .g (fun _ τ => ⟨_, .indexAddr (.no rfl) rfl (j) t22 rfl t9 rfl rfl rfl (.ref _ _ _ _ _ rfl) rfl rfl rfl (map_get (by first | omega | (rw [fillTo_len]; omega))) rfl rfl τ⟩) <| .g (fun _ τ => ⟨_, .storeE (.no rfl) rfl (els' := List.map strc ((fillTo a (.empty) j).set j (a.getD j default))) t9 rfl rfl rfl rfl (map_get (by first | omega | (rw [fillTo_len]; omega))) rfl rfl (.cons _ _ _ _ _ _ (.d _) .nil) rfl (Nat.le_of_ble_eq_true rfl) (set_map _ _ _ (a.getD j default) _ rfl) rfl rfl τ⟩) <| .z <| .rs fun k9 => .mv rfl <| .bi rfl <| .as rfl <| .z ?_
   exact .here ((j + 1), q5, (k8 + 1 + 1 + 1 + 1 + 1 + 1 + 1)) (.of (.cons rfl (.cons rfl (.cons (svI (show (IntKind.wrap .i64 ((j : Int) + 1)) = (((j + 1) : Int)) by first | rfl | omega | exact wrap_le (by omega) (by omega) | (rw [wrap_le (by omega) (by omega)]; omega))) .nil))) (.cons (rowE (show List.map strc ((fillTo a (.empty) j).set j (a.getD j default)) = List.map strc (fillTo a (.empty) (j + 1)) by first | rfl | (rw [fillTo_zero]) | (rw [fillTo_step _ _ _ (by omega) rfl]))) .nil)) ⟨(show (j + 1) ≤ a.length by omega), (show a.length - (j + 1) < a.length - j by omega)⟩
  ·have c0 := of_decide_eq_false c0
   refine .exit <| .seq <| .rs fun k10 => .mv rfl <| .as rfl <| .z <| .ret ?_
   have e11 : (fillTo a (.empty) j) = (a) := by (exact fillTo_all _ _ (by omega))
   exact fin1 (.inr rfl) [] [([7], (q5, q6, .row 9 1 (List.map strc (a))))] (.one rfl .nil) (.cons (.ref (.head _)) .nil) rfl rfl (.cons (rowE (congrArg (List.map strc) e11)) .nil)
theorem c_toArrS (a : List Arr) (hb : a.length ≤ 1048576) : Trip Tryz.prog 46 [(false, 1)] ([.sl false 112 2 (List.map Arr.c (a))]) [(false, 1)] [.sl true 115 2 (List.map Arr.c (a))] [] := by
 refine Trip.of Tryz.func46 (by decide) (c := _) rfl rfl (Nat.le_of_ble_eq_true rfl) rfl (AftOk.nil _) <| .sl (t := 0) rfl fun hs1l => .seq <| .rs fun k2 => .as rfl <| .z <| .seq <| .rs fun k3 => .mv rfl ?_
 refine .g (fun _ τ => ⟨_, .len (.no rfl) rfl (z := (a.length : Int)) t23 rfl rfl rfl (.d _ _) (map_len _ _) rfl τ⟩) <| .g (fun _ τ => ⟨_, .makeSlice (.no rfl) rfl (n0 := a.length) (els := List.map Arr.c (List.replicate a.length (Arr.mk .empty 0))) t32 rfl z115 rfl rfl rfl rfl rfl (by (simp [i115]; omega)) (by omega) (rep_map _ _ _ rfl) rfl τ⟩) <| .as rfl <| .z <| .seq <| .seq <| .rs fun k4 => .as rfl <| .z ?_
 refine .block ?_
 refine .loop (X := Nat × Nat × Nat) (fun ζ => .of [(0, .one (.d (.sl false 112 2 (List.map Arr.c (a))))), (3, .one (.ref [7] (ζ.2.1))), (4, .one (.d (.v (.int .i64 ((ζ.1 : Int))))))] [([7], (ζ.2.1, ζ.2.2, .row 115 2 (List.map Arr.c (fillTo a (Arr.mk .empty 0) ζ.1))))]) (fun ζ => ζ.1 ≤ a.length) (fun ζ => a.length - ζ.1) ?_ ?_
 ·skip
  exact .here (0, (k3 + 1 + 1), (k3 + 1 + 1)) (.of (.cons rfl (.cons (by show SV.one (.ref [7] (k3 + 1 + 1)) = SV.one (.ref [7] ((k3 + 1 + 1))); first | rfl | simp_all) (.cons (svI (show (0) = ((0 : Int)) by first | rfl | omega | exact wrap_le (by omega) (by omega) | (rw [wrap_le (by omega) (by omega)]; omega))) .nil))) (.cons (rowE (show List.map Arr.c (List.replicate a.length (Arr.mk .empty 0)) = List.map Arr.c (fillTo a (Arr.mk .empty 0) 0) by first | rfl | (rw [fillTo_zero]) | (rw [fillTo_step _ _ _ (by omega) rfl]))) .nil)) (show 0 ≤ a.length by omega)
 ·rintro ⟨j, q5, q6⟩ hI
  have hI : j ≤ a.length := hI
  dsimp only
  refine .seq <| .seq <| .rs fun k7 => .mv rfl <| .mv rfl <| .g (fun _ τ => ⟨_, .len (.no rfl) rfl (z := (a.length : Int)) t23 rfl rfl rfl (.d _ _) (map_len _ _) rfl τ⟩) <| .bi rfl <| .z ?_
  refine .cond (t := decide ((j : Int) < (a.length : Int))) rfl (fun c0 => ?_) (fun c0 => ?_)
  ·have c0 := of_decide_eq_true c0
   refine .skip <| .seq <| .block <| .rs fun k8 => .mv rfl <| .mv rfl <| .mv rfl <| .mv rfl <| .g (fun _ τ => ⟨_, .indexAddr (.no rfl) rfl (j) t23 rfl t112 rfl rfl rfl (.d _ _) rfl rfl rfl (map_get (by first | omega | (rw [fillTo_len]; omega))) rfl rfl τ⟩) ?_
   refine .lda t112 rfl (.d _) rfl <| .c0 (c_toArr (a.getD j default)) rfl (.dd (.dd .nil)) (.own [20, 0] (.own [20, 1] .nil)) rfl <| .g (fun _ τ => ⟨_, .indexAddr (.no rfl) rfl (j) t32 rfl t115 rfl rfl rfl (.ref _ _ _ _ _ rfl) rfl rfl rfl (map_get (by first | omega | (rw [fillTo_len]; omega))) rfl rfl τ⟩) <| .g (fun _ τ => ⟨_, .storeE (.no rfl) rfl (els' := List.map Arr.c ((fillTo a (Arr.mk .empty 0) j).set j (a.getD j default))) t115 rfl rfl rfl rfl (map_get (by first | omega | (rw [fillTo_len]; omega))) rfl rfl (.cons _ _ _ _ _ _ (.d _) (.cons _ _ _ _ _ _ (.d _) .nil)) rfl (Nat.le_of_ble_eq_true rfl) (set_map _ _ _ (a.getD j default) _ rfl) rfl rfl τ⟩) <| .z <| .rs fun k9 => .mv rfl <| .bi rfl <| .as rfl ?_
   refine .z ?_
   exact .here ((j + 1), q5, (k8 + 1 + 1 + 1 + 1 + 1 + 1 + 1 + 1)) (.of (.cons rfl (.cons rfl (.cons (svI (show (IntKind.wrap .i64 ((j : Int) + 1)) = (((j + 1) : Int)) by first | rfl | omega | exact wrap_le (by omega) (by omega) | (rw [wrap_le (by omega) (by omega)]; omega))) .nil))) (.cons (rowE (show List.map Arr.c ((fillTo a (Arr.mk .empty 0) j).set j (a.getD j default)) = List.map Arr.c (fillTo a (Arr.mk .empty 0) (j + 1)) by first | rfl | (rw [fillTo_zero]) | (rw [fillTo_step _ _ _ (by omega) rfl]))) .nil)) ⟨(show (j + 1) ≤ a.length by omega), (show a.length - (j + 1) < a.length - j by omega)⟩
  ·have c0 := of_decide_eq_false c0
   refine .exit <| .seq <| .rs fun k10 => .mv rfl <| .as rfl <| .z <| .ret ?_
   have e11 : (fillTo a (Arr.mk .empty 0) j) = (a) := by (exact fillTo_all _ _ (by omega))
   exact fin1 (.inr rfl) [] [([7], (q5, q6, .row 115 2 (List.map Arr.c (a))))] (.one rfl .nil) (.cons (.ref (.head _)) .nil) rfl rfl (.cons (rowE (congrArg (List.map Arr.c) e11)) .nil)
theorem c_toDecl (a : Decl) (hb : a.vars.length ≤ 1048576 ∧ a.flags.length ≤ 1048576 ∧ a.arrays.length ≤ 1048576) : Trip Tryz.prog 23 [(true, 3)] (Decl.c25 a) [(true, 3)] [.sl true 9 1 (List.map strc (a.vars)), .sl true 9 1 (List.map strc (a.flags)), .sl true 115 2 (List.map Arr.c (a.arrays))] [] := by
 refine Trip.of Tryz.func23 (by decide) (c := _) rfl rfl (Nat.le_of_ble_eq_true rfl) rfl (AftOk.nil _) <| .sla (t := 0) 0 rfl rfl fun hs1l => .sla (t := 0) 1 rfl rfl fun hs2l => .sla (t := 0) 2 rfl rfl fun hs3l => .seq <| .rs fun k4 => .g (fun _ τ => ⟨_, .box (.no rfl) rfl rfl rfl rfl rfl τ⟩) <| .g (fun _ τ => ⟨_, .alloc (.no rfl) rfl z34 rfl rfl rfl τ⟩) <| .z ?_
 refine .seq <| .rs fun k5 => .g (fun _ τ => ⟨_, .alloc (.no rfl) rfl z34 rfl rfl rfl τ⟩) <| .z <| .seq <| .rs fun k6 => .fp t25 t22 rfl <| .ld t22 rfl (.ptr _ _ _ _ _ rfl) rfl <| .c0 (c_toStringS a.vars (by omega)) rfl (.dd .nil) (.own [6, 0] .nil) rfl ?_
 refine .fp t34 t22 rfl <| .g (fun _ τ => ⟨_, .store (.no rfl) rfl t22 rfl rfl rfl rfl rfl rfl rfl rfl rfl τ⟩) <| .z <| .seq <| .rs fun k7 => .fp t25 t22 rfl <| .ld t22 rfl (.ptr _ _ _ _ _ rfl) rfl <| .c0 (c_toStringS a.flags (by omega)) rfl (.dd .nil) (.own [10, 0] .nil) rfl <| .fp t34 t22 rfl ?_
 refine .g (fun _ τ => ⟨_, .store (.no rfl) rfl t22 rfl rfl rfl rfl rfl rfl rfl rfl rfl τ⟩) <| .z <| .seq <| .rs fun k8 => .fp t25 t23 rfl <| .ld t23 rfl (.ptr _ _ _ _ _ rfl) rfl <| .c0 (c_toArrS a.arrays (by omega)) rfl (.dd .nil) (.own [14, 0] .nil) rfl <| .fp t34 t32 rfl <| .g (fun _ τ => ⟨_, .store (.no rfl) rfl t32 rfl rfl rfl rfl rfl rfl rfl rfl rfl τ⟩) ?_
 refine .z <| .seq <| .rs fun k9 => .lda t34 rfl (.ptr _ _ _ _ _ rfl) rfl <| .g (fun _ τ => ⟨_, .store (.no rfl) rfl t34 rfl rfl rfl rfl rfl rfl rfl rfl rfl τ⟩) <| .z <| .ret ?_
 exact fin1 (.inr rfl) [] [([6, 0], (k6 + 1 + 1, k6 + 1 + 1, .row 9 1 (List.map strc (a.vars)))), ([10, 0], (k7 + 1 + 1, k7 + 1 + 1, .row 9 1 (List.map strc (a.flags)))), ([14, 0], (k8 + 1 + 1, k8 + 1 + 1, .row 115 2 (List.map Arr.c (a.arrays))))] (.cell (cells := [.ref [6, 0] (k6 + 1 + 1), .ref [10, 0] (k7 + 1 + 1), .ref [14, 0] (k8 + 1 + 1)]) rfl rfl t34 rfl rfl .nil) (.cons (.ref (.head _)) (.cons (.ref (.tail _ (.head _))) (.cons (.ref (.tail _ (.tail _ (.head _)))) .nil))) rfl rfl (.r rfl)
theorem c_eqInterval (a : Iv) (b : Iv) : Trip Tryz.prog 139 [(true, 2), (true, 2)] (Iv.c a ++ Iv.c b) [(false, 1)] [.v (.bool (Iv.same a b))] [] := by
 refine Trip.of Tryz.func139 (by decide) (c := _) rfl rfl (Nat.le_of_ble_eq_true rfl) rfl (AftOk.nil _) <| .seq <| .rs fun k1 => .g (fun _ τ => ⟨_, .box (.no rfl) rfl rfl rfl rfl rfl τ⟩) <| .g (fun _ τ => ⟨_, .box (.no rfl) rfl rfl rfl rfl rfl τ⟩) <| .as rfl <| .z <| .seq <| .seq ?_
 refine .rs fun k2 => .fp t148 t2 rfl <| .ld t2 rfl (.ptr _ _ _ _ _ rfl) rfl <| .fp t148 t2 rfl <| .ld t2 rfl (.ptr _ _ _ _ _ rfl) rfl <| .bi rfl <| .z ?_
 refine .cond (t := a.lo != b.lo) rfl (fun c0 => ?_) (fun c0 => ?_)
 ·have c0 := (by simpa using c0 : ¬ (a.lo = b.lo))
  refine .seq <| .rs fun k3 => .as rfl <| .z <| .ret ?_
  exact fin0 (.inr rfl) (.one (svB (show (false) = (Iv.same a b) by (simp_all [Iv.same]))) .nil) (.dd .nil) rfl
 ·have c0 := (by simpa using c0 : a.lo = b.lo)
  refine .skip <| .seq <| .seq <| .rs fun k5 => .fp t148 t2 rfl <| .ld t2 rfl (.ptr _ _ _ _ _ rfl) rfl <| .fp t148 t2 rfl <| .ld t2 rfl (.ptr _ _ _ _ _ rfl) rfl <| .bi rfl ?_
  refine .z ?_
  refine .cond (t := a.hi != b.hi) rfl (fun c1 => ?_) (fun c1 => ?_)
  ·have c1 := (by simpa using c1 : ¬ (a.hi = b.hi))
   refine .seq <| .rs fun k6 => .as rfl <| .z <| .ret ?_
   exact fin0 (.inr rfl) (.one (svB (show (false) = (Iv.same a b) by (simp_all [Iv.same]))) .nil) (.dd .nil) rfl
  ·have c1 := (by simpa using c1 : a.hi = b.hi)
   refine .skip <| .seq <| .rs fun k8 => .as rfl <| .z <| .ret ?_
   exact fin0 (.inr rfl) (.one (svB (show (true) = (Iv.same a b) by (simp_all [Iv.same]))) .nil) (.dd .nil) rfl
theorem c_eqArr (a : Arr) (b : Arr) : Trip Tryz.prog 96 [(true, 2), (true, 2)] (Arr.c a ++ Arr.c b) [(false, 1)] [.v (.bool (Arr.same a b))] [] := by
 refine Trip.of Tryz.func96 (by decide) (c := _) rfl rfl (Nat.le_of_ble_eq_true rfl) rfl (AftOk.nil _) <| .seq <| .rs fun k1 => .g (fun _ τ => ⟨_, .box (.no rfl) rfl rfl rfl rfl rfl τ⟩) <| .g (fun _ τ => ⟨_, .box (.no rfl) rfl rfl rfl rfl rfl τ⟩) <| .as rfl <| .z <| .seq <| .seq ?_
 refine .rs fun k2 => .fp t115 t9 rfl <| .ld t9 rfl (.ptr _ _ _ _ _ rfl) rfl <| .fp t115 t9 rfl <| .ld t9 rfl (.ptr _ _ _ _ _ rfl) rfl <| .bi rfl <| .z ?_
 refine .cond (t := !(a.name.toList == b.name.toList)) rfl (fun c0 => ?_) (fun c0 => ?_)
 ·have c0 := (nT eF) c0
  refine .seq <| .rs fun k3 => .as rfl <| .z <| .ret ?_
  exact fin0 (.inr rfl) (.one (svB (show (false) = (Arr.same a b) by (simp_all [Arr.same, strEq]))) .nil) (.dd .nil) rfl
 ·have c0 := (nF eT) c0
  refine .skip <| .seq <| .seq <| .rs fun k5 => .fp t115 t2 rfl <| .ld t2 rfl (.ptr _ _ _ _ _ rfl) rfl <| .fp t115 t2 rfl <| .ld t2 rfl (.ptr _ _ _ _ _ rfl) rfl <| .bi rfl ?_
  refine .z ?_
  refine .cond (t := a.size != b.size) rfl (fun c1 => ?_) (fun c1 => ?_)
  ·have c1 := (by simpa using c1 : ¬ (a.size = b.size))
   refine .seq <| .rs fun k6 => .as rfl <| .z <| .ret ?_
   exact fin0 (.inr rfl) (.one (svB (show (false) = (Arr.same a b) by (simp_all [Arr.same, strEq]))) .nil) (.dd .nil) rfl
  ·have c1 := (by simpa using c1 : a.size = b.size)
   refine .skip <| .seq <| .rs fun k8 => .as rfl <| .z <| .ret ?_
   exact fin0 (.inr rfl) (.one (svB (show (true) = (Arr.same a b) by (simp_all [Arr.same, strEq]))) .nil) (.dd .nil) rfl
theorem c_eqIntervalS (a : List Iv) (b : List Iv) : Trip Tryz.prog 121 [(false, 1), (false, 1)] ([.sl false 148 2 (List.map Iv.c (a))] ++ [.sl false 148 2 (List.map Iv.c (b))]) [(false, 1)] [.v (.bool (all2 Iv.same a b))] [] := by
 refine Trip.of Tryz.func121 (by decide) (c := _) rfl rfl (Nat.le_of_ble_eq_true rfl) rfl (AftOk.nil _) <| .sl (t := 0) rfl fun hs1l => .sl (t := 1) rfl fun hs2l => .seq <| .rs fun k3 => .as rfl <| .z <| .seq <| .seq ?_
 refine .rs fun k4 => .mv rfl <| .g (fun _ τ => ⟨_, .len (.no rfl) rfl (z := (a.length : Int)) t53 rfl rfl rfl (.d _ _) (map_len _ _) rfl τ⟩) <| .mv rfl <| .g (fun _ τ => ⟨_, .len (.no rfl) rfl (z := (b.length : Int)) t53 rfl rfl rfl (.d _ _) (map_len _ _) rfl τ⟩) <| .bi rfl <| .z ?_
 refine .cond (t := (a.length : Int) != (b.length : Int)) rfl (fun c0 => ?_) (fun c0 => ?_)
 ·have c0 := (by simpa using c0 : ¬ ((a.length : Int) = (b.length : Int)))
  refine .seq <| .rs fun k5 => .as rfl <| .z <| .ret ?_
  exact fin0 (.inr rfl) (.one (svB (show (false) = (all2 Iv.same a b) by exact (all2_ne _ c0).symm)) .nil) (.dd .nil) rfl
 ·have c0 := (by simpa using c0 : (a.length : Int) = (b.length : Int))
  refine .skip <| .seq <| .seq <| .rs fun k7 => .as rfl <| .z <| .block ?_
  refine .loop (X := Nat) (fun ζ => .of [(0, .one (.d (.sl false 148 2 (List.map Iv.c (a))))), (1, .one (.d (.sl false 148 2 (List.map Iv.c (b))))), (5, .one (.d (.v (.int .i64 ((ζ : Int))))))] []) (fun ζ => ζ ≤ a.length ∧ a.length = b.length ∧ allTo ζ (fun i => Iv.same (a.getD i default) (b.getD i default)) = true) (fun ζ => a.length - ζ) ?_ ?_
  ·skip
   exact .here 0 (.of (.cons rfl (.cons rfl (.cons (svI (show (0) = ((0 : Int)) by first | rfl | omega | exact wrap_le (by omega) (by omega) | (rw [wrap_le (by omega) (by omega)]; omega))) .nil))) .nil) (show 0 ≤ a.length ∧ a.length = b.length ∧ allTo 0 (fun i => Iv.same (a.getD i default) (b.getD i default)) = true by exact ⟨by omega, by omega, rfl⟩)
  ·rintro j hI
   have hI : j ≤ a.length ∧ a.length = b.length ∧ allTo j (fun i => Iv.same (a.getD i default) (b.getD i default)) = true := hI
   refine .seq <| .seq <| .rs fun k8 => .mv rfl <| .mv rfl <| .g (fun _ τ => ⟨_, .len (.no rfl) rfl (z := (a.length : Int)) t53 rfl rfl rfl (.d _ _) (map_len _ _) rfl τ⟩) <| .bi rfl <| .z ?_
   refine .cond (t := decide ((j : Int) < (a.length : Int))) rfl (fun c1 => ?_) (fun c1 => ?_)
   ·have c1 := of_decide_eq_true c1
    refine .skip <| .seq <| .block <| .seq ?_
    refine .regD (X := Unit) (by kernel_rfl) (fun ζ => .of [(0, .one (.d (.sl false 148 2 (List.map Iv.c (a))))), (1, .one (.d (.sl false 148 2 (List.map Iv.c (b))))), (5, .one (.d (.v (.int .i64 ((j : Int)))))), (26, .one (.d (.v (.bool (!(Iv.same (a.getD j default) (b.getD j default)))))))] []) [⟨[0], some 17, [], []⟩, ⟨[5], some 18, [], []⟩, ⟨[17, 18], some 19, [], []⟩, ⟨[19], some 20, [], []⟩, ⟨[1], some 21, [], []⟩, ⟨[5], some 22, [], []⟩, ⟨[21, 22], some 23, [], []⟩, ⟨[23], some 24, [], []⟩, ⟨[20, 24], some 25, [], []⟩, ⟨[25], some 26, [], []⟩] (by kernel_rfl) (fun k9 => ?_) ?_
    ·skip
     refine .move (.no rfl) rfl rfl rfl rfl <| .move (.no rfl) rfl rfl rfl rfl <| .indexAddr (.no rfl) rfl (j) t53 rfl t148 rfl rfl rfl (.d _ _) rfl rfl rfl (map_get (by omega)) rfl rfl <| .load (.no rfl) rfl t148 rfl rfl (.d _) rfl rfl rfl rfl <| .move (.no rfl) rfl rfl rfl rfl <| .move (.no rfl) rfl rfl rfl rfl <| .indexAddr (.no rfl) rfl (j) t53 rfl t148 rfl rfl rfl (.d _ _) rfl rfl rfl (map_get (by omega)) rfl rfl <| .load (.no rfl) rfl t148 rfl rfl (.d _) rfl rfl rfl rfl <| .call (.no rfl) rfl [] [] (c_eqInterval (a.getD j default) (b.getD j default)) rfl rfl rfl rfl rfl (.dd (.dd (.dd (.dd .nil)))) rfl rfl (fun h => absurd rfl h) (.own [25, 0] .nil) (.nil) rfl rfl rfl (by simp) rfl rfl rfl ?_
     refine .un (.no rfl) rfl rfl rfl rfl rfl ?_
     exact .fin () (.of (.r rfl) .nil)
    intro _
    refine .cond (t := !(Iv.same (a.getD j default) (b.getD j default))) rfl (fun c2 => ?_) (fun c2 => ?_)
    ·have c2 := (nT id) c2
     refine .seq <| .rs fun k10 => .as rfl <| .z <| .ret ?_
     exact fin0 (.inr rfl) (.one (svB (show (false) = (all2 Iv.same a b) by exact (all2_fail _ (j := j) (by omega) (by simpa [] using c2)).symm)) .nil) (.dd .nil) rfl
    ·have c2 := (nF id) c2
     refine .skip <| .rs fun k12 => .mv rfl <| .bi rfl <| .as rfl <| .z ?_
     exact .here (j + 1) (.of (.cons rfl (.cons rfl (.cons (svI (show (IntKind.wrap .i64 ((j : Int) + 1)) = (((j + 1) : Int)) by first | rfl | omega | exact wrap_le (by omega) (by omega) | (rw [wrap_le (by omega) (by omega)]; omega))) .nil))) .nil) ⟨(show (j + 1) ≤ a.length ∧ a.length = b.length ∧ allTo (j + 1) (fun i => Iv.same (a.getD i default) (b.getD i default)) = true by exact ⟨by omega, by omega, allTo_step hI.2.2 (by simpa [] using c2)⟩), (show a.length - (j + 1) < a.length - j by omega)⟩
   ·have c1 := of_decide_eq_false c1
    refine .exit <| .seq <| .rs fun k13 => .as rfl <| .z <| .ret ?_
    exact fin0 (.inr rfl) (.one (svB (show (true) = (all2 Iv.same a b) by (have hj : j = a.length := (by omega); subst hj; exact (all2_done _ hI.2.1 hI.2.2).symm))) .nil) (.dd .nil) rfl
theorem c_eqStringS (a : List ByteArray) (b : List ByteArray) : Trip Tryz.prog 55 [(false, 1), (false, 1)] ([.sl false 9 1 (List.map strc (a))] ++ [.sl false 9 1 (List.map strc (b))]) [(false, 1)] [.v (.bool (all2 strEq a b))] [] := by
 refine Trip.of Tryz.func55 (by decide) (c := _) rfl rfl (Nat.le_of_ble_eq_true rfl) rfl (AftOk.nil _) <| .sl (t := 0) rfl fun hs1l => .sl (t := 1) rfl fun hs2l => .seq <| .rs fun k3 => .as rfl <| .z <| .seq <| .seq ?_
 refine .rs fun k4 => .mv rfl <| .g (fun _ τ => ⟨_, .len (.no rfl) rfl (z := (a.length : Int)) t22 rfl rfl rfl (.d _ _) (map_len _ _) rfl τ⟩) <| .mv rfl <| .g (fun _ τ => ⟨_, .len (.no rfl) rfl (z := (b.length : Int)) t22 rfl rfl rfl (.d _ _) (map_len _ _) rfl τ⟩) <| .bi rfl <| .z ?_
 refine .cond (t := (a.length : Int) != (b.length : Int)) rfl (fun c0 => ?_) (fun c0 => ?_)
 ·have c0 := (by simpa using c0 : ¬ ((a.length : Int) = (b.length : Int)))
  refine .seq <| .rs fun k5 => .as rfl <| .z <| .ret ?_
  exact fin0 (.inr rfl) (.one (svB (show (false) = (all2 strEq a b) by exact (all2_ne _ c0).symm)) .nil) (.dd .nil) rfl
 ·have c0 := (by simpa using c0 : (a.length : Int) = (b.length : Int))
  refine .skip <| .seq <| .seq <| .rs fun k7 => .as rfl <| .z <| .block ?_
  refine .loop (X := Nat) (fun ζ => .of [(0, .one (.d (.sl false 9 1 (List.map strc (a))))), (1, .one (.d (.sl false 9 1 (List.map strc (b))))), (5, .one (.d (.v (.int .i64 ((ζ : Int))))))] []) (fun ζ => ζ ≤ a.length ∧ a.length = b.length ∧ allTo ζ (fun i => strEq (a.getD i default) (b.getD i default)) = true) (fun ζ => a.length - ζ) ?_ ?_
  ·skip
   exact .here 0 (.of (.cons rfl (.cons rfl (.cons (svI (show (0) = ((0 : Int)) by first | rfl | omega | exact wrap_le (by omega) (by omega) | (rw [wrap_le (by omega) (by omega)]; omega))) .nil))) .nil) (show 0 ≤ a.length ∧ a.length = b.length ∧ allTo 0 (fun i => strEq (a.getD i default) (b.getD i default)) = true by exact ⟨by omega, by omega, rfl⟩)
  ·rintro j hI
   have hI : j ≤ a.length ∧ a.length = b.length ∧ allTo j (fun i => strEq (a.getD i default) (b.getD i default)) = true := hI
   refine .seq <| .seq <| .rs fun k8 => .mv rfl <| .mv rfl <| .g (fun _ τ => ⟨_, .len (.no rfl) rfl (z := (a.length : Int)) t22 rfl rfl rfl (.d _ _) (map_len _ _) rfl τ⟩) <| .bi rfl <| .z ?_
   refine .cond (t := decide ((j : Int) < (a.length : Int))) rfl (fun c1 => ?_) (fun c1 => ?_)
   ·have c1 := of_decide_eq_true c1
    refine .skip <| .seq <| .block <| .seq ?_
    refine .regD (X := Unit) (by kernel_rfl) (fun ζ => .of [(0, .one (.d (.sl false 9 1 (List.map strc (a))))), (1, .one (.d (.sl false 9 1 (List.map strc (b))))), (5, .one (.d (.v (.int .i64 ((j : Int)))))), (25, .one (.d (.v (.bool (!((a.getD j default).toList == (b.getD j default).toList))))))] []) [⟨[0], some 17, [], []⟩, ⟨[5], some 18, [], []⟩, ⟨[17, 18], some 19, [], []⟩, ⟨[19], some 20, [], []⟩, ⟨[1], some 21, [], []⟩, ⟨[5], some 22, [], []⟩, ⟨[21, 22], some 23, [], []⟩, ⟨[23], some 24, [], []⟩, ⟨[20, 24], some 25, [], []⟩] (by kernel_rfl) (fun k9 => ?_) ?_
    ·skip
     refine .move (.no rfl) rfl rfl rfl rfl <| .move (.no rfl) rfl rfl rfl rfl <| .indexAddr (.no rfl) rfl (j) t22 rfl t9 rfl rfl rfl (.d _ _) rfl rfl rfl (map_get (by omega)) rfl rfl <| .load (.no rfl) rfl t9 rfl rfl (.d _) rfl rfl rfl rfl <| .move (.no rfl) rfl rfl rfl rfl <| .move (.no rfl) rfl rfl rfl rfl <| .indexAddr (.no rfl) rfl (j) t22 rfl t9 rfl rfl rfl (.d _ _) rfl rfl rfl (map_get (by omega)) rfl rfl <| .load (.no rfl) rfl t9 rfl rfl (.d _) rfl rfl rfl rfl <| .bin (.no rfl) rfl rfl rfl rfl rfl rfl ?_
     exact .fin () (.of (.r rfl) .nil)
    intro _
    refine .cond (t := !((a.getD j default).toList == (b.getD j default).toList)) rfl (fun c2 => ?_) (fun c2 => ?_)
    ·have c2 := (nT eF) c2
     refine .seq <| .rs fun k10 => .as rfl <| .z <| .ret ?_
     exact fin0 (.inr rfl) (.one (svB (show (false) = (all2 strEq a b) by exact (all2_fail _ (j := j) (by omega) (by simpa [strEq] using c2)).symm)) .nil) (.dd .nil) rfl
    ·have c2 := (nF eT) c2
     refine .skip <| .rs fun k12 => .mv rfl <| .bi rfl <| .as rfl <| .z ?_
     exact .here (j + 1) (.of (.cons rfl (.cons rfl (.cons (svI (show (IntKind.wrap .i64 ((j : Int) + 1)) = (((j + 1) : Int)) by first | rfl | omega | exact wrap_le (by omega) (by omega) | (rw [wrap_le (by omega) (by omega)]; omega))) .nil))) .nil) ⟨(show (j + 1) ≤ a.length ∧ a.length = b.length ∧ allTo (j + 1) (fun i => strEq (a.getD i default) (b.getD i default)) = true by exact ⟨by omega, by omega, allTo_step hI.2.2 (by simpa [strEq] using c2)⟩), (show a.length - (j + 1) < a.length - j by omega)⟩
   ·have c1 := of_decide_eq_false c1
    refine .exit <| .seq <| .rs fun k13 => .as rfl <| .z <| .ret ?_
    exact fin0 (.inr rfl) (.one (svB (show (true) = (all2 strEq a b) by (have hj : j = a.length := (by omega); subst hj; exact (all2_done _ hI.2.1 hI.2.2).symm))) .nil) (.dd .nil) rfl
theorem c_eqArrS (a : List Arr) (b : List Arr) : Trip Tryz.prog 56 [(false, 1), (false, 1)] ([.sl false 115 2 (List.map Arr.c (a))] ++ [.sl false 115 2 (List.map Arr.c (b))]) [(false, 1)] [.v (.bool (all2 Arr.same a b))] [] := by
 refine Trip.of Tryz.func56 (by decide) (c := _) rfl rfl (Nat.le_of_ble_eq_true rfl) rfl (AftOk.nil _) <| .sl (t := 0) rfl fun hs1l => .sl (t := 1) rfl fun hs2l => .seq <| .rs fun k3 => .as rfl <| .z <| .seq <| .seq ?_
 refine .rs fun k4 => .mv rfl <| .g (fun _ τ => ⟨_, .len (.no rfl) rfl (z := (a.length : Int)) t32 rfl rfl rfl (.d _ _) (map_len _ _) rfl τ⟩) <| .mv rfl <| .g (fun _ τ => ⟨_, .len (.no rfl) rfl (z := (b.length : Int)) t32 rfl rfl rfl (.d _ _) (map_len _ _) rfl τ⟩) <| .bi rfl <| .z ?_
 refine .cond (t := (a.length : Int) != (b.length : Int)) rfl (fun c0 => ?_) (fun c0 => ?_)
 ·have c0 := (by simpa using c0 : ¬ ((a.length : Int) = (b.length : Int)))
  refine .seq <| .rs fun k5 => .as rfl <| .z <| .ret ?_
  exact fin0 (.inr rfl) (.one (svB (show (false) = (all2 Arr.same a b) by exact (all2_ne _ c0).symm)) .nil) (.dd .nil) rfl
 ·have c0 := (by simpa using c0 : (a.length : Int) = (b.length : Int))
  refine .skip <| .seq <| .seq <| .rs fun k7 => .as rfl <| .z <| .block ?_
  refine .loop (X := Nat) (fun ζ => .of [(0, .one (.d (.sl false 115 2 (List.map Arr.c (a))))), (1, .one (.d (.sl false 115 2 (List.map Arr.c (b))))), (5, .one (.d (.v (.int .i64 ((ζ : Int))))))] []) (fun ζ => ζ ≤ a.length ∧ a.length = b.length ∧ allTo ζ (fun i => Arr.same (a.getD i default) (b.getD i default)) = true) (fun ζ => a.length - ζ) ?_ ?_
  ·skip
   exact .here 0 (.of (.cons rfl (.cons rfl (.cons (svI (show (0) = ((0 : Int)) by first | rfl | omega | exact wrap_le (by omega) (by omega) | (rw [wrap_le (by omega) (by omega)]; omega))) .nil))) .nil) (show 0 ≤ a.length ∧ a.length = b.length ∧ allTo 0 (fun i => Arr.same (a.getD i default) (b.getD i default)) = true by exact ⟨by omega, by omega, rfl⟩)
  ·rintro j hI
   have hI : j ≤ a.length ∧ a.length = b.length ∧ allTo j (fun i => Arr.same (a.getD i default) (b.getD i default)) = true := hI
   refine .seq <| .seq <| .rs fun k8 => .mv rfl <| .mv rfl <| .g (fun _ τ => ⟨_, .len (.no rfl) rfl (z := (a.length : Int)) t32 rfl rfl rfl (.d _ _) (map_len _ _) rfl τ⟩) <| .bi rfl <| .z ?_
   refine .cond (t := decide ((j : Int) < (a.length : Int))) rfl (fun c1 => ?_) (fun c1 => ?_)
   ·have c1 := of_decide_eq_true c1
    refine .skip <| .seq <| .block <| .seq ?_
    refine .regD (X := Unit) (by kernel_rfl) (fun ζ => .of [(0, .one (.d (.sl false 115 2 (List.map Arr.c (a))))), (1, .one (.d (.sl false 115 2 (List.map Arr.c (b))))), (5, .one (.d (.v (.int .i64 ((j : Int)))))), (26, .one (.d (.v (.bool (!(Arr.same (a.getD j default) (b.getD j default)))))))] []) [⟨[0], some 17, [], []⟩, ⟨[5], some 18, [], []⟩, ⟨[17, 18], some 19, [], []⟩, ⟨[19], some 20, [], []⟩, ⟨[1], some 21, [], []⟩, ⟨[5], some 22, [], []⟩, ⟨[21, 22], some 23, [], []⟩, ⟨[23], some 24, [], []⟩, ⟨[20, 24], some 25, [], []⟩, ⟨[25], some 26, [], []⟩] (by kernel_rfl) (fun k9 => ?_) ?_
    ·skip
     refine .move (.no rfl) rfl rfl rfl rfl <| .move (.no rfl) rfl rfl rfl rfl <| .indexAddr (.no rfl) rfl (j) t32 rfl t115 rfl rfl rfl (.d _ _) rfl rfl rfl (map_get (by omega)) rfl rfl <| .load (.no rfl) rfl t115 rfl rfl (.d _) rfl rfl rfl rfl <| .move (.no rfl) rfl rfl rfl rfl <| .move (.no rfl) rfl rfl rfl rfl <| .indexAddr (.no rfl) rfl (j) t32 rfl t115 rfl rfl rfl (.d _ _) rfl rfl rfl (map_get (by omega)) rfl rfl <| .load (.no rfl) rfl t115 rfl rfl (.d _) rfl rfl rfl rfl <| .call (.no rfl) rfl [] [] (c_eqArr (a.getD j default) (b.getD j default)) rfl rfl rfl rfl rfl (.dd (.dd (.dd (.dd .nil)))) rfl rfl (fun h => absurd rfl h) (.own [25, 0] .nil) (.nil) rfl rfl rfl (by simp) rfl rfl rfl ?_
     refine .un (.no rfl) rfl rfl rfl rfl rfl ?_
     exact .fin () (.of (.r rfl) .nil)
    intro _
    refine .cond (t := !(Arr.same (a.getD j default) (b.getD j default))) rfl (fun c2 => ?_) (fun c2 => ?_)
    ·have c2 := (nT id) c2
     refine .seq <| .rs fun k10 => .as rfl <| .z <| .ret ?_
     exact fin0 (.inr rfl) (.one (svB (show (false) = (all2 Arr.same a b) by exact (all2_fail _ (j := j) (by omega) (by simpa [] using c2)).symm)) .nil) (.dd .nil) rfl
    ·have c2 := (nF id) c2
     refine .skip <| .rs fun k12 => .mv rfl <| .bi rfl <| .as rfl <| .z ?_
     exact .here (j + 1) (.of (.cons rfl (.cons rfl (.cons (svI (show (IntKind.wrap .i64 ((j : Int) + 1)) = (((j + 1) : Int)) by first | rfl | omega | exact wrap_le (by omega) (by omega) | (rw [wrap_le (by omega) (by omega)]; omega))) .nil))) .nil) ⟨(show (j + 1) ≤ a.length ∧ a.length = b.length ∧ allTo (j + 1) (fun i => Arr.same (a.getD i default) (b.getD i default)) = true by exact ⟨by omega, by omega, allTo_step hI.2.2 (by simpa [] using c2)⟩), (show a.length - (j + 1) < a.length - j by omega)⟩
   ·have c1 := of_decide_eq_false c1
    refine .exit <| .seq <| .rs fun k13 => .as rfl <| .z <| .ret ?_
    exact fin0 (.inr rfl) (.one (svB (show (true) = (all2 Arr.same a b) by (have hj : j = a.length := (by omega); subst hj; exact (all2_done _ hI.2.1 hI.2.2).symm))) .nil) (.dd .nil) rfl
theorem c_eqEnv (a : Env) (b : Env) : Trip Tryz.prog 95 [(true, 3), (true, 3)] (Env.c55 a ++ Env.c55 b) [(false, 1)] [.v (.bool (Env.same a b))] [] := by
 refine Trip.of Tryz.func95 (by decide) (c := _) rfl rfl (Nat.le_of_ble_eq_true rfl) rfl (AftOk.nil _) <| .sla (t := 0) 1 rfl rfl fun hs1l => .sla (t := 0) 2 rfl rfl fun hs2l => .sla (t := 1) 1 rfl rfl fun hs3l => .sla (t := 1) 2 rfl rfl fun hs4l => .seq <| .rs fun k5 => .g (fun _ τ => ⟨_, .box (.no rfl) rfl rfl rfl rfl rfl τ⟩) <| .g (fun _ τ => ⟨_, .box (.no rfl) rfl rfl rfl rfl rfl τ⟩) ?_
 refine .as rfl <| .z <| .seq <| .seq <| .rs fun k6 => .fp t55 t4 rfl <| .ld t4 rfl (.ptr _ _ _ _ _ rfl) rfl <| .fp t55 t4 rfl <| .ld t4 rfl (.ptr _ _ _ _ _ rfl) rfl ?_
 refine .g (fun _ τ => ⟨_, .neB (.no rfl) rfl t4 rfl rfl rfl rfl rfl τ⟩) <| .z ?_
 refine .cond (t := a.live != b.live) rfl (fun c0 => ?_) (fun c0 => ?_)
 ·have c0 := (by simpa using c0 : ¬ (a.live = b.live))
  refine .seq <| .rs fun k7 => .as rfl <| .z <| .ret ?_
  exact fin0 (.inr rfl) (.one (svB (show (false) = (Env.same a b) by (simp_all [Env.same]))) .nil) (.dd .nil) rfl
 ·have c0 := (by simpa using c0 : a.live = b.live)
  refine .skip <| .seq <| .seq <| .rs fun k9 => .fp t55 t53 rfl <| .ld t53 rfl (.ptr _ _ _ _ _ rfl) rfl <| .fp t55 t53 rfl <| .ld t53 rfl (.ptr _ _ _ _ _ rfl) rfl <| .c0 (c_eqIntervalS a.ints b.ints) rfl (.dd (.dd .nil)) (.own [14, 0] .nil) rfl ?_
  refine .un rfl <| .z ?_
  refine .cond (t := !(all2 Iv.same a.ints b.ints)) rfl (fun c1 => ?_) (fun c1 => ?_)
  ·have c1 := (nT id) c1
   refine .seq <| .rs fun k10 => .as rfl <| .z <| .ret ?_
   exact fin0 (.inr rfl) (.one (svB (show (false) = (Env.same a b) by (simp_all [Env.same]))) .nil) (.dd .nil) rfl
  ·have c1 := (nF id) c1
   refine .skip <| .seq <| .seq <| .rs fun k12 => .fp t55 t53 rfl <| .ld t53 rfl (.ptr _ _ _ _ _ rfl) rfl <| .fp t55 t53 rfl <| .ld t53 rfl (.ptr _ _ _ _ _ rfl) rfl <| .c0 (c_eqIntervalS a.arrs b.arrs) rfl (.dd (.dd .nil)) (.own [20, 0] .nil) rfl ?_
   refine .un rfl <| .z ?_
   refine .cond (t := !(all2 Iv.same a.arrs b.arrs)) rfl (fun c2 => ?_) (fun c2 => ?_)
   ·have c2 := (nT id) c2
    refine .seq <| .rs fun k13 => .as rfl <| .z <| .ret ?_
    exact fin0 (.inr rfl) (.one (svB (show (false) = (Env.same a b) by (simp_all [Env.same]))) .nil) (.dd .nil) rfl
   ·have c2 := (nF id) c2
    refine .skip <| .seq <| .rs fun k15 => .as rfl <| .z <| .ret ?_
    exact fin0 (.inr rfl) (.one (svB (show (true) = (Env.same a b) by (simp_all [Env.same]))) .nil) (.dd .nil) rfl
theorem c_eqDecl (a : Decl) (b : Decl) : Trip Tryz.prog 28 [(true, 3), (true, 3)] (Decl.c34 a ++ Decl.c34 b) [(false, 1)] [.v (.bool (Decl.same a b))] [] := by
 refine Trip.of Tryz.func28 (by decide) (c := _) rfl rfl (Nat.le_of_ble_eq_true rfl) rfl (AftOk.nil _) <| .sla (t := 0) 0 rfl rfl fun hs1l => .sla (t := 0) 1 rfl rfl fun hs2l => .sla (t := 0) 2 rfl rfl fun hs3l => .sla (t := 1) 0 rfl rfl fun hs4l => .sla (t := 1) 1 rfl rfl fun hs5l => .sla (t := 1) 2 rfl rfl fun hs6l => .seq <| .rs fun k7 => ?_
 refine .g (fun _ τ => ⟨_, .box (.no rfl) rfl rfl rfl rfl rfl τ⟩) <| .g (fun _ τ => ⟨_, .box (.no rfl) rfl rfl rfl rfl rfl τ⟩) <| .as rfl <| .z <| .seq <| .seq <| .rs fun k8 => .fp t34 t22 rfl <| .ld t22 rfl (.ptr _ _ _ _ _ rfl) rfl ?_
 refine .fp t34 t22 rfl <| .ld t22 rfl (.ptr _ _ _ _ _ rfl) rfl <| .c0 (c_eqStringS a.vars b.vars) rfl (.dd (.dd .nil)) (.own [9, 0] .nil) rfl <| .un rfl <| .z ?_
 refine .cond (t := !(all2 strEq a.vars b.vars)) rfl (fun c0 => ?_) (fun c0 => ?_)
 ·have c0 := (nT id) c0
  refine .seq <| .rs fun k9 => .as rfl <| .z <| .ret ?_
  exact fin0 (.inr rfl) (.one (svB (show (false) = (Decl.same a b) by (simp_all [Decl.same]))) .nil) (.dd .nil) rfl
 ·have c0 := (nF id) c0
  refine .skip <| .seq <| .seq <| .rs fun k11 => .fp t34 t22 rfl <| .ld t22 rfl (.ptr _ _ _ _ _ rfl) rfl <| .fp t34 t22 rfl <| .ld t22 rfl (.ptr _ _ _ _ _ rfl) rfl <| .c0 (c_eqStringS a.flags b.flags) rfl (.dd (.dd .nil)) (.own [15, 0] .nil) rfl ?_
  refine .un rfl <| .z ?_
  refine .cond (t := !(all2 strEq a.flags b.flags)) rfl (fun c1 => ?_) (fun c1 => ?_)
  ·have c1 := (nT id) c1
   refine .seq <| .rs fun k12 => .as rfl <| .z <| .ret ?_
   exact fin0 (.inr rfl) (.one (svB (show (false) = (Decl.same a b) by (simp_all [Decl.same]))) .nil) (.dd .nil) rfl
  ·have c1 := (nF id) c1
   refine .skip <| .seq <| .seq <| .rs fun k14 => .fp t34 t32 rfl <| .ld t32 rfl (.ptr _ _ _ _ _ rfl) rfl <| .fp t34 t32 rfl <| .ld t32 rfl (.ptr _ _ _ _ _ rfl) rfl <| .c0 (c_eqArrS a.arrays b.arrays) rfl (.dd (.dd .nil)) (.own [21, 0] .nil) rfl ?_
   refine .un rfl <| .z ?_
   refine .cond (t := !(all2 Arr.same a.arrays b.arrays)) rfl (fun c2 => ?_) (fun c2 => ?_)
   ·have c2 := (nT id) c2
    refine .seq <| .rs fun k15 => .as rfl <| .z <| .ret ?_
    exact fin0 (.inr rfl) (.one (svB (show (false) = (Decl.same a b) by (simp_all [Decl.same]))) .nil) (.dd .nil) rfl
   ·have c2 := (nF id) c2
    refine .skip <| .seq <| .rs fun k17 => .as rfl <| .z <| .ret ?_
    exact fin0 (.inr rfl) (.one (svB (show (true) = (Decl.same a b) by (simp_all [Decl.same]))) .nil) (.dd .nil) rfl
end Go.Proofs

namespace Go.Proofs
open Go Go.Proofs Go.Ev

def u8c (x : Int) : List D := [.v (.int .u8 x)]
theorem u8c_e (x : Int) : (u8c x).map D.erase = u8c x := by simp [u8c, D.erase_v]
theorem u8c_o (x : Int) : ∀ d ∈ u8c x, Owned d := by simp [u8c, Owned.v]
def i3 : TI := ⟨.int .i64, 1, 8, [.int .i64 0]⟩
theorem t3 : TyOk Tryz.prog 3 i3 := ⟨Tryz.underlying3, by kernel_rfl⟩
theorem z3 : ZOk Tryz.prog 3 i3 := ⟨t3, rfl⟩
def i5 : TI := ⟨.int .u8, 1, 1, [.int .u8 0]⟩
theorem t5 : TyOk Tryz.prog 5 i5 := ⟨Tryz.underlying5, by kernel_rfl⟩
theorem z5 : ZOk Tryz.prog 5 i5 := ⟨t5, rfl⟩
def i169 : TI := ⟨.sl 5, 1, 24, [.slice none 0 0]⟩
theorem t169 : TyOk Tryz.prog 169 i169 := ⟨Tryz.underlying169, by kernel_rfl⟩
theorem z169 : ZOk Tryz.prog 169 i169 := ⟨t169, rfl⟩
theorem c_markText (k : Int) (hk : k < 4611686018427387904) : Trip Tryz.prog 98 [(false, 1)] ([.v (.int .i64 (k))]) [(false, 1)] [.v (.string (mText k))] [] := by
 refine Trip.of Tryz.func98 (by decide) (c := _) rfl rfl (Nat.le_of_ble_eq_true rfl) rfl (AftOk.nil _) <| .seq <| .rs fun k1 => .as rfl <| .z <| .seq <| .seq <| .rs fun k2 => .mv rfl ?_
 refine .bi rfl <| .z ?_
 refine .cond (t := decide (k ≤ 0)) rfl (fun c0 => ?_) (fun c0 => ?_)
 ·have c0 := of_decide_eq_true c0
  refine .seq <| .rs fun k3 => .as rfl <| .z <| .ret ?_
  exact fin0 (.inr rfl) (.one (svS (show ((⟨#[109, 48]⟩ : ByteArray)) = (mText k) by (simp only [mText]; rw [if_pos c0]))) .nil) (.dd .nil) rfl
 ·have c0 := of_decide_eq_false c0
  refine .skip <| .seq <| .rs fun k5 => .as rfl <| .z <| .seq <| .block ?_
  refine .loop (X := Int × ByteArray) (fun ζ => .of [(0, .one (.d (.v (.int .i64 (ζ.1))))), (3, .one (.d (.v (.string (ζ.2)))))] []) (fun ζ => 0 ≤ ζ.1 ∧ ζ.1 ≤ k ∧ txtGo ζ.1 ζ.2 = txtGo k (⟨#[]⟩ : ByteArray) ∧ (ζ.2.size : Int) + ζ.1 ≤ k) (fun ζ => ζ.1.toNat) ?_ ?_
  ·skip
   exact .here (k, (⟨#[]⟩ : ByteArray)) (.of (.r rfl) .nil) (show 0 ≤ k ∧ k ≤ k ∧ txtGo k (⟨#[]⟩ : ByteArray) = txtGo k (⟨#[]⟩ : ByteArray) ∧ ((⟨#[]⟩ : ByteArray).size : Int) + k ≤ k by exact ⟨by omega, by omega, rfl, by show ((0 : Nat) : Int) + k ≤ k; omega⟩)
  ·rintro ⟨v, u⟩ hI
   have hI : 0 ≤ v ∧ v ≤ k ∧ txtGo v u = txtGo k (⟨#[]⟩ : ByteArray) ∧ (u.size : Int) + v ≤ k := hI
   dsimp only
   refine .seq <| .seq <| .rs fun k6 => .mv rfl <| .bi rfl <| .z ?_
   refine .cond (t := decide (v > 0)) rfl (fun c1 => ?_) (fun c1 => ?_)
   ·have c1 := of_decide_eq_true c1
    refine .skip <| .block <| .seq <| .rs fun k7 => .mv rfl <| .g (fun _ τ => ⟨_, .quoRem (.no rfl) rfl (.inr ⟨rfl, rfl⟩) rfl rfl rfl rfl rfl τ⟩) <| .bi rfl <| .g (fun _ τ => ⟨_, .conv (.no rfl) rfl t3 t5 rfl rfl rfl rfl rfl rfl τ⟩) <| .g (fun _ τ => ⟨_, .buildSlice (.no rfl) rfl (els := [[.v (.int .u8 (IntKind.wrap .u8 (IntKind.wrap .i64 (48 + (Int.tmod v 10)))))]]) t169 rfl z5 rfl rfl rfl rfl rfl rfl rfl rfl (by simp [i5]) (.cons _ _ _ _ _ _ (.d _) .nil) rfl rfl rfl τ⟩) ?_
    refine .g (fun _ τ => ⟨_, .bytesStr (.no rfl) rfl (ns := [IntKind.wrap .u8 (IntKind.wrap .i64 (48 + (Int.tmod v 10)))]) t169 rfl t5 rfl t9 rfl rfl rfl (.ref _ _ _ _ _ rfl) rfl rfl τ⟩) <| .mv rfl <| .g (fun _ τ => ⟨_, .addStr (.no rfl) rfl rfl rfl rfl (by (first | (rw [bytesOf1_size]; omega) | (have : (⟨#[109]⟩ : ByteArray).size = 1 := rfl; omega))) rfl τ⟩) <| .as rfl <| .z <| .rs fun k8 => .mv rfl <| .g (fun _ τ => ⟨_, .quoRem (.no rfl) rfl (.inl ⟨rfl, rfl⟩) rfl rfl rfl rfl rfl τ⟩) <| .as rfl ?_
    refine .z ?_
    exact .here ((Int.tdiv v 10), (bytesOf [digit v] ++ u)) (.of (.cons (svI (show (IntKind.wrap .i64 (Int.tdiv v 10)) = ((Int.tdiv v 10)) by first | rfl | exact wrap_le (by have := tdiv_lt c1; omega) (by have := tdiv_lt c1; omega))) (.cons (svS (show ((bytesOf [IntKind.wrap .u8 (IntKind.wrap .i64 (48 + (Int.tmod v 10)))]) ++ u) = ((bytesOf [digit v] ++ u)) by first | rfl | exact wrap_le (by have := tdiv_lt c1; omega) (by have := tdiv_lt c1; omega))) .nil)) .nil) ⟨(show 0 ≤ (Int.tdiv v 10) ∧ (Int.tdiv v 10) ≤ k ∧ txtGo (Int.tdiv v 10) (bytesOf [digit v] ++ u) = txtGo k (⟨#[]⟩ : ByteArray) ∧ ((bytesOf [digit v] ++ u).size : Int) + (Int.tdiv v 10) ≤ k by (have h9 := tdiv_lt c1; exact ⟨h9.1, by omega, (txtGo_step c1).trans hI.2.2.1, by rw [ByteArray.size_append, bytesOf1_size]; omega⟩)), (show (Int.tdiv v 10).toNat < v.toNat by (have h9 := tdiv_lt c1; omega))⟩
   ·have c1 := of_decide_eq_false c1
    refine .exit <| .seq <| .rs fun k9 => .mv rfl <| .g (fun _ τ => ⟨_, .addStr (.no rfl) rfl rfl rfl rfl (by (first | (rw [bytesOf1_size]; omega) | (have : (⟨#[109]⟩ : ByteArray).size = 1 := rfl; omega))) rfl τ⟩) <| .as rfl <| .z <| .ret ?_
    exact fin0 (.inr rfl) (.one (svS (show ((⟨#[109]⟩ : ByteArray) ++ u) = (mText k) by (simp only [mText]; rw [if_neg c0, ← hI.2.2.1, txtGo_end c1]))) .nil) (.dd .nil) rfl
theorem c_markStringS (a : List ByteArray) (k : Int) (hk : 0 ≤ k ∧ k + 2 * (a.length : Int) < 4611686018427387904) : Trip Tryz.prog 58 [(false, 1), (false, 1)] ([.sl true 9 1 (List.map strc (a))] ++ [.v (.int .i64 (k))]) [(false, 1)] [.v (.int .i64 (k + (a.length : Int)))] [(0, .sl true 9 1 (List.map strc (mkAll (mStr k) a)))] := by
 refine Trip.of Tryz.func58 (by decide) (c := _) rfl rfl (Nat.le_of_ble_eq_true rfl) rfl (AftOk.sl rfl (AftOk.nil _)) <| .seq <| .rs fun k1 => .as rfl <| .z <| .seq <| .seq <| .rs fun k2 => .as rfl ?_
 refine .z <| .block ?_
 refine .loop (X := Nat × Nat) (fun ζ => .of [(0, .one (.ref [0, 0, 0] (0))), (1, .one (.d (.v (.int .i64 (k + (ζ.1 : Int)))))), (5, .one (.d (.v (.int .i64 ((ζ.1 : Int))))))] [([0, 0, 0], (0, ζ.2, .row 9 1 (List.map strc (mkTo (mStr k) a ζ.1))))]) (fun ζ => ζ.1 ≤ a.length) (fun ζ => a.length - ζ.1) ?_ ?_
 ·skip
  exact .here (0, 0) (.of (.cons rfl (.cons (svI (show (k) = (k + (0 : Int)) by first | omega | exact wrap_le (by omega) (by omega) | (rw [wrap_le (by omega) (by omega)]; omega) | (rw [wrap_le (a := k + 2 * (j : Int) + 1) (by omega) (by omega), wrap_le (by omega) (by omega)]; omega))) (.cons (svI (show (0) = ((0 : Int)) by first | omega | exact wrap_le (by omega) (by omega) | (rw [wrap_le (by omega) (by omega)]; omega) | (rw [wrap_le (a := k + 2 * (j : Int) + 1) (by omega) (by omega), wrap_le (by omega) (by omega)]; omega))) .nil))) (.cons (rowE (show List.map strc (a) = List.map strc (mkTo (mStr k) a 0) by first | (rw [← mkTo_zero]) | (rw [mkTo_step (x := mText (k + j)) (mStr k) a (by omega) rfl]))) .nil)) (show 0 ≤ a.length by omega)
 ·rintro ⟨j, q3⟩ hI
  have hI : j ≤ a.length := hI
  have hL : (mkTo (mStr k) a j).length = a.length := mkTo_len _ _ _
  dsimp only
  refine .seq <| .seq <| .rs fun k4 => .mv rfl <| .mv rfl <| .g (fun _ τ => ⟨_, .len (.no rfl) rfl (z := ((mkTo (mStr k) a j).length : Int)) t22 rfl rfl rfl (.ref _ _ _ _ _ rfl) (map_len _ _) rfl τ⟩) <| .bi rfl <| .z ?_
  refine .cond (t := decide ((j : Int) < ((mkTo (mStr k) a j).length : Int))) rfl (fun c0 => ?_) (fun c0 => ?_)
  ·have c0 := of_decide_eq_true c0
   refine .skip <| .seq <| .block <| .seq <| .rs fun k5 => .mv rfl <| .mv rfl <| .mv rfl <| .c0 (c_markText (k + (j : Int)) (by omega)) rfl (.dd .nil) (.own [15, 0] .nil) rfl ?_
   refine .g (fun _ τ => ⟨_, .indexAddr (.no rfl) rfl (j) t22 rfl t9 rfl rfl rfl (.ref _ _ _ _ _ rfl) rfl rfl rfl (map_get (by first | omega | (rw [List.length_set]; omega))) rfl rfl τ⟩) <| .g (fun _ τ => ⟨_, .storeE (.no rfl) rfl (els' := List.map strc ((mkTo (mStr k) a j).set j (mText (k + (j : Int))))) t9 rfl rfl rfl rfl (map_get (by first | omega | (rw [List.length_set]; omega))) rfl rfl (.cons _ _ _ _ _ _ (.d _) .nil) rfl (Nat.le_of_ble_eq_true rfl) (set_map _ _ _ (mText (k + (j : Int))) _ rfl) rfl rfl τ⟩) <| .z <| .rs fun k6 => .mv rfl <| .bi rfl <| .as rfl <| .z <| .rs fun k7 => ?_
   refine .mv rfl <| .bi rfl <| .as rfl <| .z ?_
   exact .here ((j + 1), (k5 + 1 + 1 + 1 + 1 + 1)) (.of (.cons rfl (.cons (svI (show (IntKind.wrap .i64 ((k + (j : Int)) + 1)) = (k + ((j + 1) : Int)) by first | omega | exact wrap_le (by omega) (by omega) | (rw [wrap_le (by omega) (by omega)]; omega) | (rw [wrap_le (a := k + 2 * (j : Int) + 1) (by omega) (by omega), wrap_le (by omega) (by omega)]; omega))) (.cons (svI (show (IntKind.wrap .i64 ((j : Int) + 1)) = (((j + 1) : Int)) by first | omega | exact wrap_le (by omega) (by omega) | (rw [wrap_le (by omega) (by omega)]; omega) | (rw [wrap_le (a := k + 2 * (j : Int) + 1) (by omega) (by omega), wrap_le (by omega) (by omega)]; omega))) .nil))) (.cons (rowE (show List.map strc ((mkTo (mStr k) a j).set j (mText (k + (j : Int)))) = List.map strc (mkTo (mStr k) a (j + 1)) by first | (rw [← mkTo_zero]) | (rw [mkTo_step (x := mText (k + j)) (mStr k) a (by omega) rfl]))) .nil)) ⟨(show (j + 1) ≤ a.length by omega), (show a.length - (j + 1) < a.length - j by omega)⟩
  ·have c0 := of_decide_eq_false c0
   refine .exit <| .seq <| .rs fun k8 => .mv rfl <| .as rfl <| .z <| .ret ?_
   have e10 : (mkTo (mStr k) a j) = (mkAll (mStr k) a) := by first | omega | exact mkTo_all _ _ hI (by omega)
   exact fin1 (.inr rfl) [] [([0, 0, 0], (0, q3, .row 9 1 (List.map strc (mkAll (mStr k) a))))] (.one (svI (show (k + (j : Int)) = (k + (a.length : Int)) by first | omega | exact mkTo_all _ _ hI (by omega))) .nil) (.dd (.cons (.ref (.head _)) .nil)) rfl rfl (.cons (rowE (congrArg (List.map strc) e10)) .nil)
theorem c_markArrS (a : List Arr) (k : Int) (hk : 0 ≤ k ∧ k + 2 * (a.length : Int) < 4611686018427387904) : Trip Tryz.prog 59 [(false, 1), (false, 1)] ([.sl true 115 2 (List.map Arr.c (a))] ++ [.v (.int .i64 (k))]) [(false, 1)] [.v (.int .i64 (k + 2 * (a.length : Int)))] [(0, .sl true 115 2 (List.map Arr.c (mkAll (mArr k) a)))] := by
 refine Trip.of Tryz.func59 (by decide) (c := _) rfl rfl (Nat.le_of_ble_eq_true rfl) rfl (AftOk.sl rfl (AftOk.nil _)) <| .seq <| .rs fun k1 => .as rfl <| .z <| .seq <| .seq <| .rs fun k2 => .as rfl ?_
 refine .z <| .block ?_
 refine .loop (X := Nat × Nat) (fun ζ => .of [(0, .one (.ref [0, 0, 0] (0))), (1, .one (.d (.v (.int .i64 (k + 2 * (ζ.1 : Int)))))), (5, .one (.d (.v (.int .i64 ((ζ.1 : Int))))))] [([0, 0, 0], (0, ζ.2, .row 115 2 (List.map Arr.c (mkTo (mArr k) a ζ.1))))]) (fun ζ => ζ.1 ≤ a.length) (fun ζ => a.length - ζ.1) ?_ ?_
 ·skip
  exact .here (0, 0) (.of (.cons rfl (.cons (svI (show (k) = (k + 2 * (0 : Int)) by first | omega | exact wrap_le (by omega) (by omega) | (rw [wrap_le (by omega) (by omega)]; omega) | (rw [wrap_le (a := k + 2 * (j : Int) + 1) (by omega) (by omega), wrap_le (by omega) (by omega)]; omega))) (.cons (svI (show (0) = ((0 : Int)) by first | omega | exact wrap_le (by omega) (by omega) | (rw [wrap_le (by omega) (by omega)]; omega) | (rw [wrap_le (a := k + 2 * (j : Int) + 1) (by omega) (by omega), wrap_le (by omega) (by omega)]; omega))) .nil))) (.cons (rowE (show List.map Arr.c (a) = List.map Arr.c (mkTo (mArr k) a 0) by first | (rw [← mkTo_zero]) | (rw [List.set_set, set_getD (by rw [mkTo_len]; omega), mkTo_step _ _ (by omega) (by simp only [mArr]; rw [wrap_le (a := k + 2 * (j : Int) + 1) (by omega) (by omega)])]))) .nil)) (show 0 ≤ a.length by omega)
 ·rintro ⟨j, q3⟩ hI
  have hI : j ≤ a.length := hI
  have hL : (mkTo (mArr k) a j).length = a.length := mkTo_len _ _ _
  dsimp only
  refine .seq <| .seq <| .rs fun k4 => .mv rfl <| .mv rfl <| .g (fun _ τ => ⟨_, .len (.no rfl) rfl (z := ((mkTo (mArr k) a j).length : Int)) t32 rfl rfl rfl (.ref _ _ _ _ _ rfl) (map_len _ _) rfl τ⟩) <| .bi rfl <| .z ?_
  refine .cond (t := decide ((j : Int) < ((mkTo (mArr k) a j).length : Int))) rfl (fun c0 => ?_) (fun c0 => ?_)
  ·have c0 := of_decide_eq_true c0
   refine .skip <| .seq <| .block <| .seq <| .rs fun k5 => .mv rfl <| .mv rfl <| .mv rfl <| .c0 (c_markText (k + 2 * (j : Int)) (by omega)) rfl (.dd .nil) (.own [15, 0] .nil) rfl ?_
   refine .g (fun _ τ => ⟨_, .indexAddr (.no rfl) rfl (j) t32 rfl t115 rfl rfl rfl (.ref _ _ _ _ _ rfl) rfl rfl rfl (map_get (by first | omega | (rw [List.length_set]; omega))) rfl rfl τ⟩) <| .g (fun _ τ => ⟨_, .fieldAddr (.no rfl) rfl t115 rfl rfl t9 rfl rfl rfl rfl [] (by simp) (by intro _ _ _ h; cases h) rfl rfl τ⟩) <| .g (fun _ τ => ⟨_, .storeE (.no rfl) rfl (els' := List.map Arr.c ((mkTo (mArr k) a j).set j (Arr.mk (mText (k + 2 * (j : Int))) (((mkTo (mArr k) a j).getD (j) default).size)))) t9 rfl rfl rfl rfl (map_get (by first | omega | (rw [List.length_set]; omega))) rfl rfl (.cons _ _ _ _ _ _ (.d _) .nil) rfl (Nat.le_of_ble_eq_true rfl) (set_map _ _ _ (Arr.mk (mText (k + 2 * (j : Int))) (((mkTo (mArr k) a j).getD (j) default).size)) _ rfl) rfl rfl τ⟩) <| .z <| .seq <| .rs fun k6 => .mv rfl <| .bi rfl <| .as rfl ?_
   refine .z <| .seq <| .rs fun k7 => .mv rfl <| .mv rfl <| .mv rfl <| .g (fun _ τ => ⟨_, .indexAddr (.no rfl) rfl (j) t32 rfl t115 rfl rfl rfl (.ref _ _ _ _ _ rfl) rfl rfl rfl (map_get (by first | omega | (rw [List.length_set]; omega))) rfl rfl τ⟩) <| .g (fun _ τ => ⟨_, .fieldAddr (.no rfl) rfl t115 rfl rfl t2 rfl rfl rfl rfl [] (by simp) (by intro _ _ _ h; cases h) rfl rfl τ⟩) ?_
   refine .g (fun _ τ => ⟨_, .storeE (.no rfl) rfl (els' := List.map Arr.c (((mkTo (mArr k) a j).set j (Arr.mk (mText (k + 2 * (j : Int))) (((mkTo (mArr k) a j).getD (j) default).size))).set j (Arr.mk ((((mkTo (mArr k) a j).set j (Arr.mk (mText (k + 2 * (j : Int))) (((mkTo (mArr k) a j).getD (j) default).size))).getD (j) default).name) (IntKind.wrap .i64 ((k + 2 * (j : Int)) + 1))))) t2 rfl rfl rfl rfl (map_get (by first | omega | (rw [List.length_set]; omega))) rfl rfl (.cons _ _ _ _ _ _ (.d _) .nil) rfl (Nat.le_of_ble_eq_true rfl) (set_map _ _ _ (Arr.mk ((((mkTo (mArr k) a j).set j (Arr.mk (mText (k + 2 * (j : Int))) (((mkTo (mArr k) a j).getD (j) default).size))).getD (j) default).name) (IntKind.wrap .i64 ((k + 2 * (j : Int)) + 1))) _ rfl) rfl rfl τ⟩) <| .z <| .rs fun k8 => .mv rfl <| .bi rfl <| .as rfl <| .z <| .rs fun k9 => .mv rfl ?_
   refine .bi rfl <| .as rfl <| .z ?_
   exact .here ((j + 1), (k7 + 1 + 1 + 1 + 1 + 1)) (.of (.cons rfl (.cons (svI (show (IntKind.wrap .i64 ((IntKind.wrap .i64 ((k + 2 * (j : Int)) + 1)) + 1)) = (k + 2 * ((j + 1) : Int)) by first | omega | exact wrap_le (by omega) (by omega) | (rw [wrap_le (by omega) (by omega)]; omega) | (rw [wrap_le (a := k + 2 * (j : Int) + 1) (by omega) (by omega), wrap_le (by omega) (by omega)]; omega))) (.cons (svI (show (IntKind.wrap .i64 ((j : Int) + 1)) = (((j + 1) : Int)) by first | omega | exact wrap_le (by omega) (by omega) | (rw [wrap_le (by omega) (by omega)]; omega) | (rw [wrap_le (a := k + 2 * (j : Int) + 1) (by omega) (by omega), wrap_le (by omega) (by omega)]; omega))) .nil))) (.cons (rowE (show List.map Arr.c (((mkTo (mArr k) a j).set j (Arr.mk (mText (k + 2 * (j : Int))) (((mkTo (mArr k) a j).getD (j) default).size))).set j (Arr.mk ((((mkTo (mArr k) a j).set j (Arr.mk (mText (k + 2 * (j : Int))) (((mkTo (mArr k) a j).getD (j) default).size))).getD (j) default).name) (IntKind.wrap .i64 ((k + 2 * (j : Int)) + 1)))) = List.map Arr.c (mkTo (mArr k) a (j + 1)) by first | (rw [← mkTo_zero]) | (rw [List.set_set, set_getD (by rw [mkTo_len]; omega), mkTo_step _ _ (by omega) (by simp only [mArr]; rw [wrap_le (a := k + 2 * (j : Int) + 1) (by omega) (by omega)])]))) .nil)) ⟨(show (j + 1) ≤ a.length by omega), (show a.length - (j + 1) < a.length - j by omega)⟩
  ·have c0 := of_decide_eq_false c0
   refine .exit <| .seq <| .rs fun k10 => .mv rfl <| .as rfl <| .z <| .ret ?_
   have e12 : (mkTo (mArr k) a j) = (mkAll (mArr k) a) := by first | omega | exact mkTo_all _ _ hI (by omega)
   exact fin1 (.inr rfl) [] [([0, 0, 0], (0, q3, .row 115 2 (List.map Arr.c (mkAll (mArr k) a))))] (.one (svI (show (k + 2 * (j : Int)) = (k + 2 * (a.length : Int)) by first | omega | exact mkTo_all _ _ hI (by omega))) .nil) (.dd (.cons (.ref (.head _)) .nil)) rfl rfl (.cons (rowE (congrArg (List.map Arr.c) e12)) .nil)
theorem c_markIntervalS (a : List Iv) (k : Int) (hk : 0 ≤ k ∧ k + 2 * (a.length : Int) < 4611686018427387904) : Trip Tryz.prog 61 [(false, 1), (false, 1)] ([.sl true 148 2 (List.map Iv.c (a))] ++ [.v (.int .i64 (k))]) [(false, 1)] [.v (.int .i64 (k + 2 * (a.length : Int)))] [(0, .sl true 148 2 (List.map Iv.c (mkAll (mIv k) a)))] := by
 refine Trip.of Tryz.func61 (by decide) (c := _) rfl rfl (Nat.le_of_ble_eq_true rfl) rfl (AftOk.sl rfl (AftOk.nil _)) <| .seq <| .rs fun k1 => .as rfl <| .z <| .seq <| .seq <| .rs fun k2 => .as rfl ?_
 refine .z <| .block ?_
 refine .loop (X := Nat × Nat) (fun ζ => .of [(0, .one (.ref [0, 0, 0] (0))), (1, .one (.d (.v (.int .i64 (k + 2 * (ζ.1 : Int)))))), (5, .one (.d (.v (.int .i64 ((ζ.1 : Int))))))] [([0, 0, 0], (0, ζ.2, .row 148 2 (List.map Iv.c (mkTo (mIv k) a ζ.1))))]) (fun ζ => ζ.1 ≤ a.length) (fun ζ => a.length - ζ.1) ?_ ?_
 ·skip
  exact .here (0, 0) (.of (.cons rfl (.cons (svI (show (k) = (k + 2 * (0 : Int)) by first | omega | exact wrap_le (by omega) (by omega) | (rw [wrap_le (by omega) (by omega)]; omega) | (rw [wrap_le (a := k + 2 * (j : Int) + 1) (by omega) (by omega), wrap_le (by omega) (by omega)]; omega))) (.cons (svI (show (0) = ((0 : Int)) by first | omega | exact wrap_le (by omega) (by omega) | (rw [wrap_le (by omega) (by omega)]; omega) | (rw [wrap_le (a := k + 2 * (j : Int) + 1) (by omega) (by omega), wrap_le (by omega) (by omega)]; omega))) .nil))) (.cons (rowE (show List.map Iv.c (a) = List.map Iv.c (mkTo (mIv k) a 0) by first | (rw [← mkTo_zero]) | (rw [List.set_set, set_getD (by rw [mkTo_len]; omega), mkTo_step _ _ (by omega) (by simp only [mIv]; rw [wrap_le (a := k + 2 * (j : Int) + 1) (by omega) (by omega)])]))) .nil)) (show 0 ≤ a.length by omega)
 ·rintro ⟨j, q3⟩ hI
  have hI : j ≤ a.length := hI
  have hL : (mkTo (mIv k) a j).length = a.length := mkTo_len _ _ _
  dsimp only
  refine .seq <| .seq <| .rs fun k4 => .mv rfl <| .mv rfl <| .g (fun _ τ => ⟨_, .len (.no rfl) rfl (z := ((mkTo (mIv k) a j).length : Int)) t53 rfl rfl rfl (.ref _ _ _ _ _ rfl) (map_len _ _) rfl τ⟩) <| .bi rfl <| .z ?_
  refine .cond (t := decide ((j : Int) < ((mkTo (mIv k) a j).length : Int))) rfl (fun c0 => ?_) (fun c0 => ?_)
  ·have c0 := of_decide_eq_true c0
   refine .skip <| .seq <| .block <| .seq <| .rs fun k5 => .mv rfl <| .mv rfl <| .mv rfl <| .g (fun _ τ => ⟨_, .indexAddr (.no rfl) rfl (j) t53 rfl t148 rfl rfl rfl (.ref _ _ _ _ _ rfl) rfl rfl rfl (map_get (by first | omega | (rw [List.length_set]; omega))) rfl rfl τ⟩) ?_
   refine .g (fun _ τ => ⟨_, .fieldAddr (.no rfl) rfl t148 rfl rfl t2 rfl rfl rfl rfl [] (by simp) (by intro _ _ _ h; cases h) rfl rfl τ⟩) <| .g (fun _ τ => ⟨_, .storeE (.no rfl) rfl (els' := List.map Iv.c ((mkTo (mIv k) a j).set j (Iv.mk (k + 2 * (j : Int)) (((mkTo (mIv k) a j).getD (j) default).hi)))) t2 rfl rfl rfl rfl (map_get (by first | omega | (rw [List.length_set]; omega))) rfl rfl (.cons _ _ _ _ _ _ (.d _) .nil) rfl (Nat.le_of_ble_eq_true rfl) (set_map _ _ _ (Iv.mk (k + 2 * (j : Int)) (((mkTo (mIv k) a j).getD (j) default).hi)) _ rfl) rfl rfl τ⟩) <| .z <| .seq <| .rs fun k6 => .mv rfl <| .bi rfl <| .as rfl <| .z ?_
   refine .seq <| .rs fun k7 => .mv rfl <| .mv rfl <| .mv rfl <| .g (fun _ τ => ⟨_, .indexAddr (.no rfl) rfl (j) t53 rfl t148 rfl rfl rfl (.ref _ _ _ _ _ rfl) rfl rfl rfl (map_get (by first | omega | (rw [List.length_set]; omega))) rfl rfl τ⟩) <| .g (fun _ τ => ⟨_, .fieldAddr (.no rfl) rfl t148 rfl rfl t2 rfl rfl rfl rfl [] (by simp) (by intro _ _ _ h; cases h) rfl rfl τ⟩) ?_
   refine .g (fun _ τ => ⟨_, .storeE (.no rfl) rfl (els' := List.map Iv.c (((mkTo (mIv k) a j).set j (Iv.mk (k + 2 * (j : Int)) (((mkTo (mIv k) a j).getD (j) default).hi))).set j (Iv.mk ((((mkTo (mIv k) a j).set j (Iv.mk (k + 2 * (j : Int)) (((mkTo (mIv k) a j).getD (j) default).hi))).getD (j) default).lo) (IntKind.wrap .i64 ((k + 2 * (j : Int)) + 1))))) t2 rfl rfl rfl rfl (map_get (by first | omega | (rw [List.length_set]; omega))) rfl rfl (.cons _ _ _ _ _ _ (.d _) .nil) rfl (Nat.le_of_ble_eq_true rfl) (set_map _ _ _ (Iv.mk ((((mkTo (mIv k) a j).set j (Iv.mk (k + 2 * (j : Int)) (((mkTo (mIv k) a j).getD (j) default).hi))).getD (j) default).lo) (IntKind.wrap .i64 ((k + 2 * (j : Int)) + 1))) _ rfl) rfl rfl τ⟩) <| .z <| .rs fun k8 => .mv rfl <| .bi rfl <| .as rfl <| .z <| .rs fun k9 => .mv rfl ?_
   refine .bi rfl <| .as rfl <| .z ?_
   exact .here ((j + 1), (k7 + 1 + 1 + 1 + 1 + 1)) (.of (.cons rfl (.cons (svI (show (IntKind.wrap .i64 ((IntKind.wrap .i64 ((k + 2 * (j : Int)) + 1)) + 1)) = (k + 2 * ((j + 1) : Int)) by first | omega | exact wrap_le (by omega) (by omega) | (rw [wrap_le (by omega) (by omega)]; omega) | (rw [wrap_le (a := k + 2 * (j : Int) + 1) (by omega) (by omega), wrap_le (by omega) (by omega)]; omega))) (.cons (svI (show (IntKind.wrap .i64 ((j : Int) + 1)) = (((j + 1) : Int)) by first | omega | exact wrap_le (by omega) (by omega) | (rw [wrap_le (by omega) (by omega)]; omega) | (rw [wrap_le (a := k + 2 * (j : Int) + 1) (by omega) (by omega), wrap_le (by omega) (by omega)]; omega))) .nil))) (.cons (rowE (show List.map Iv.c (((mkTo (mIv k) a j).set j (Iv.mk (k + 2 * (j : Int)) (((mkTo (mIv k) a j).getD (j) default).hi))).set j (Iv.mk ((((mkTo (mIv k) a j).set j (Iv.mk (k + 2 * (j : Int)) (((mkTo (mIv k) a j).getD (j) default).hi))).getD (j) default).lo) (IntKind.wrap .i64 ((k + 2 * (j : Int)) + 1)))) = List.map Iv.c (mkTo (mIv k) a (j + 1)) by first | (rw [← mkTo_zero]) | (rw [List.set_set, set_getD (by rw [mkTo_len]; omega), mkTo_step _ _ (by omega) (by simp only [mIv]; rw [wrap_le (a := k + 2 * (j : Int) + 1) (by omega) (by omega)])]))) .nil)) ⟨(show (j + 1) ≤ a.length by omega), (show a.length - (j + 1) < a.length - j by omega)⟩
  ·have c0 := of_decide_eq_false c0
   refine .exit <| .seq <| .rs fun k10 => .mv rfl <| .as rfl <| .z <| .ret ?_
   have e12 : (mkTo (mIv k) a j) = (mkAll (mIv k) a) := by first | omega | exact mkTo_all _ _ hI (by omega)
   exact fin1 (.inr rfl) [] [([0, 0, 0], (0, q3, .row 148 2 (List.map Iv.c (mkAll (mIv k) a))))] (.one (svI (show (k + 2 * (j : Int)) = (k + 2 * (a.length : Int)) by first | omega | exact mkTo_all _ _ hI (by omega))) .nil) (.dd (.cons (.ref (.head _)) .nil)) rfl rfl (.cons (rowE (congrArg (List.map Iv.c) e12)) .nil)
theorem c_markDecl (a : Decl) (k : Int) (hk : 0 ≤ k ∧ k ≤ 1073741824) (hl : a.vars.length ≤ 1048576 ∧ a.flags.length ≤ 1048576 ∧ a.arrays.length ≤ 1048576) : Trip Tryz.prog 30 [(true, 3), (false, 1)] ([.sl true 9 1 (List.map strc (a.vars)), .sl true 9 1 (List.map strc (a.flags)), .sl true 115 2 (List.map Arr.c (a.arrays))] ++ [.v (.int .i64 (k))]) [(false, 1)] [.v (.int .i64 (Decl.marks k a))] [(0, .sl true 9 1 (List.map strc ((Decl.mark k a).vars))), (1, .sl true 9 1 (List.map strc ((Decl.mark k a).flags))), (2, .sl true 115 2 (List.map Arr.c ((Decl.mark k a).arrays)))] := by
 refine Trip.of Tryz.func30 (by decide) (c := _) rfl rfl (Nat.le_of_ble_eq_true rfl) rfl (AftOk.sl rfl (AftOk.sl rfl (AftOk.sl rfl (AftOk.nil _)))) <| .seq <| .rs fun k1 => .g (fun _ τ => ⟨_, .box (.no rfl) rfl rfl rfl rfl rfl τ⟩) <| .as rfl <| .z <| .seq <| .rs fun k2 => .fp t34 t22 rfl ?_
 refine .ld t22 rfl (.ptr _ _ _ _ _ rfl) rfl <| .mv rfl <| .g (fun _ τ => ⟨_, .call (.no rfl) rfl [] [([0, 0, 0], (0, 0, .row 9 1 (List.map strc (a.vars))))] (c_markStringS a.vars k (by omega)) rfl rfl rfl rfl rfl (.cons (.ref (.head _)) (.dd .nil)) rfl rfl (fun h => absurd rfl h) (.own [8, 0] .nil) (.ref rfl (.head _) (by simp) .nil) rfl rfl rfl (AllH.get (.r rfl)) rfl rfl rfl τ⟩) <| .as rfl <| .z <| .seq <| .rs fun k3 => .fp t34 t22 rfl <| .ld t22 rfl (.ptr _ _ _ _ _ rfl) rfl ?_
 refine .mv rfl <| .g (fun _ τ => ⟨_, .call (.no rfl) rfl [] [([1, 0, 0], (0, 0, .row 9 1 (List.map strc (a.flags))))] (c_markStringS a.flags (k + (a.vars.length : Int)) (by omega)) rfl rfl rfl rfl rfl (.cons (.ref (.head _)) (.dd .nil)) rfl rfl (fun h => absurd rfl h) (.own [12, 0] .nil) (.ref rfl (.head _) (by simp) .nil) rfl rfl rfl (AllH.get (.r rfl)) rfl rfl rfl τ⟩) <| .as rfl <| .z <| .seq <| .rs fun k4 => .fp t34 t32 rfl <| .ld t32 rfl (.ptr _ _ _ _ _ rfl) rfl <| .mv rfl ?_
 refine .g (fun _ τ => ⟨_, .call (.no rfl) rfl [] [([2, 0, 0], (0, 0, .row 115 2 (List.map Arr.c (a.arrays))))] (c_markArrS a.arrays ((k + (a.vars.length : Int)) + (a.flags.length : Int)) (by omega)) rfl rfl rfl rfl rfl (.cons (.ref (.head _)) (.dd .nil)) rfl rfl (fun h => absurd rfl h) (.own [16, 0] .nil) (.ref rfl (.head _) (by simp) .nil) rfl rfl rfl (AllH.get (.r rfl)) rfl rfl rfl τ⟩) <| .as rfl <| .z <| .seq <| .rs fun k5 => .mv rfl <| .as rfl <| .z <| .ret ?_
 have e7 : (mkAll (mStr k) a.vars) = ((Decl.mark k a).vars) := by rfl
 have e8 : (mkAll (mStr (k + (a.vars.length : Int))) a.flags) = ((Decl.mark k a).flags) := by rfl
 have e9 : (mkAll (mArr ((k + (a.vars.length : Int)) + (a.flags.length : Int))) a.arrays) = ((Decl.mark k a).arrays) := by rfl
 exact fin1 (.inr rfl) [] [([0, 0, 0], (0, k2 + 1 + 1 + 1, .row 9 1 (List.map strc ((Decl.mark k a).vars)))), ([1, 0, 0], (0, k3 + 1 + 1 + 1, .row 9 1 (List.map strc ((Decl.mark k a).flags)))), ([2, 0, 0], (0, k4 + 1 + 1 + 1, .row 115 2 (List.map Arr.c ((Decl.mark k a).arrays))))] (.one (svI (show (((k + (a.vars.length : Int)) + (a.flags.length : Int)) + 2 * (a.arrays.length : Int)) = (Decl.marks k a) by rfl)) .nil) (.dd (.cons (.ref (.head _)) (.cons (.ref (.tail _ (.head _))) (.cons (.ref (.tail _ (.tail _ (.head _)))) .nil)))) rfl rfl (.cons (rowE (congrArg (List.map strc) e7)) (.cons (rowE (congrArg (List.map strc) e8)) (.cons (rowE (congrArg (List.map Arr.c) e9)) .nil)))
theorem c_heldIntervalS (a : List Iv) (k : Int) (hk : 0 ≤ k ∧ k + 2 * (a.length : Int) < 4611686018427387904) (hm : ∀ i, i < a.length → a.getD i default = mIv k i default) : Trip Tryz.prog 62 [(false, 1), (false, 1)] ([.sl false 148 2 (List.map Iv.c (a))] ++ [.v (.int .i64 (k))]) [(false, 1)] [.v (.int .i64 (k + 2 * (a.length : Int)))] [] := by
 refine Trip.of Tryz.func62 (by decide) (c := _) rfl rfl (Nat.le_of_ble_eq_true rfl) rfl (AftOk.nil _) <| .sl (t := 0) rfl fun hs1l => .seq <| .rs fun k2 => .as rfl <| .z <| .seq <| .seq <| .rs fun k3 => ?_
 refine .as rfl <| .z <| .block ?_
 refine .loop (X := Nat) (fun ζ => .of [(0, .one (.d (.sl false 148 2 (List.map Iv.c (a))))), (1, .one (.d (.v (.int .i64 (k + 2 * (ζ : Int)))))), (5, .one (.d (.v (.int .i64 ((ζ : Int))))))] []) (fun ζ => ζ ≤ a.length) (fun ζ => a.length - ζ) ?_ ?_
 ·skip
  exact .here 0 (.of (.cons rfl (.cons (svI (show (k) = (k + 2 * (0 : Int)) by first | omega | exact wrap_le (by omega) (by omega) | (rw [wrap_le (by omega) (by omega)]; omega) | (rw [wrap_le (a := k + 2 * (j : Int) + 1) (by omega) (by omega), wrap_le (by omega) (by omega)]; omega))) (.cons (svI (show (0) = ((0 : Int)) by first | omega | exact wrap_le (by omega) (by omega) | (rw [wrap_le (by omega) (by omega)]; omega) | (rw [wrap_le (a := k + 2 * (j : Int) + 1) (by omega) (by omega), wrap_le (by omega) (by omega)]; omega))) .nil))) .nil) (show 0 ≤ a.length by omega)
 ·rintro j hI
  have hI : j ≤ a.length := hI
  refine .seq <| .seq <| .rs fun k4 => .mv rfl <| .mv rfl <| .g (fun _ τ => ⟨_, .len (.no rfl) rfl (z := (a.length : Int)) t53 rfl rfl rfl (.d _ _) (map_len _ _) rfl τ⟩) <| .bi rfl <| .z ?_
  refine .cond (t := decide ((j : Int) < (a.length : Int))) rfl (fun c0 => ?_) (fun c0 => ?_)
  ·have c0 := of_decide_eq_true c0
   refine .skip <| .seq <| .block <| .seq <| .seq <| .rs fun k5 => .mv rfl <| .mv rfl <| .g (fun _ τ => ⟨_, .indexAddr (.no rfl) rfl (j) t53 rfl t148 rfl rfl rfl (.d _ _) rfl rfl rfl (map_get (by omega)) rfl rfl τ⟩) ?_
   refine .g (fun _ τ => ⟨_, .fieldAddr (.no rfl) rfl t148 rfl rfl t2 rfl rfl rfl rfl [] (by simp) (by intro _ _ _ h; cases h) rfl rfl τ⟩) <| .ld t2 rfl (.d _) rfl <| .mv rfl <| .bi rfl <| .z ?_
   refine .cond (t := ((a.getD j default).lo) != (k + 2 * (j : Int))) rfl (fun c1 => ?_) (fun c1 => ?_)
   ·have c1 := (by simpa using c1 : ¬ (((a.getD j default).lo) = (k + 2 * (j : Int))))
    refine .seq <| .rs fun k6 => .as rfl <| .z <| .ret ?_
    exact fin0 (.inr rfl) (.one (svI (show (-1) = (k + 2 * (a.length : Int)) by (have h9 := hm j (by omega); rw [h9] at c1; simp [mIv] at c1))) .nil) (.dd .nil) rfl
   ·have c1 := (by simpa using c1 : ((a.getD j default).lo) = (k + 2 * (j : Int)))
    refine .skip <| .seq <| .rs fun k8 => .mv rfl <| .bi rfl <| .as rfl <| .z <| .seq <| .seq ?_
    refine .rs fun k9 => .mv rfl <| .mv rfl <| .g (fun _ τ => ⟨_, .indexAddr (.no rfl) rfl (j) t53 rfl t148 rfl rfl rfl (.d _ _) rfl rfl rfl (map_get (by omega)) rfl rfl τ⟩) <| .g (fun _ τ => ⟨_, .fieldAddr (.no rfl) rfl t148 rfl rfl t2 rfl rfl rfl rfl [] (by simp) (by intro _ _ _ h; cases h) rfl rfl τ⟩) <| .ld t2 rfl (.d _) rfl <| .mv rfl <| .bi rfl <| .z ?_
    refine .cond (t := ((a.getD j default).hi) != (IntKind.wrap .i64 ((k + 2 * (j : Int)) + 1))) rfl (fun c2 => ?_) (fun c2 => ?_)
    ·have c2 := (by simpa using c2 : ¬ (((a.getD j default).hi) = (IntKind.wrap .i64 ((k + 2 * (j : Int)) + 1))))
     refine .seq <| .rs fun k10 => .as rfl <| .z <| .ret ?_
     exact fin0 (.inr rfl) (.one (svI (show (-1) = (k + 2 * (a.length : Int)) by (have h9 := hm j (by omega); rw [wrap_le (by omega) (by omega)] at c2; rw [h9] at c2; simp [mIv] at c2))) .nil) (.dd .nil) rfl
    ·have c2 := (by simpa using c2 : ((a.getD j default).hi) = (IntKind.wrap .i64 ((k + 2 * (j : Int)) + 1)))
     refine .skip <| .rs fun k12 => .mv rfl <| .bi rfl <| .as rfl <| .z <| .rs fun k13 => .mv rfl <| .bi rfl ?_
     refine .as rfl <| .z ?_
     exact .here (j + 1) (.of (.cons rfl (.cons (svI (show (IntKind.wrap .i64 ((IntKind.wrap .i64 ((k + 2 * (j : Int)) + 1)) + 1)) = (k + 2 * ((j + 1) : Int)) by first | omega | exact wrap_le (by omega) (by omega) | (rw [wrap_le (by omega) (by omega)]; omega) | (rw [wrap_le (a := k + 2 * (j : Int) + 1) (by omega) (by omega), wrap_le (by omega) (by omega)]; omega))) (.cons (svI (show (IntKind.wrap .i64 ((j : Int) + 1)) = (((j + 1) : Int)) by first | omega | exact wrap_le (by omega) (by omega) | (rw [wrap_le (by omega) (by omega)]; omega) | (rw [wrap_le (a := k + 2 * (j : Int) + 1) (by omega) (by omega), wrap_le (by omega) (by omega)]; omega))) .nil))) .nil) ⟨(show (j + 1) ≤ a.length by omega), (show a.length - (j + 1) < a.length - j by omega)⟩
  ·have c0 := of_decide_eq_false c0
   refine .exit <| .seq <| .rs fun k14 => .mv rfl <| .as rfl <| .z <| .ret ?_
   exact fin0 (.inr rfl) (.one (svI (show (k + 2 * (j : Int)) = (k + 2 * (a.length : Int)) by omega)) .nil) (.dd .nil) rfl
end Go.Proofs

namespace Go.Proofs
open Go Go.Proofs Go.Ev

theorem c_l1In (n : Int) (lo : Int) (hi : Int) : Trip Tryz.prog 69 [(false, 1), (false, 1), (false, 1)] ([.v (.int .i64 (n))] ++ [.v (.int .i64 (lo))] ++ [.v (.int .i64 (hi))]) [(false, 1)] [.v (.bool (inR n lo hi))] [] := by
 refine Trip.of Tryz.func69 (by decide) (c := _) rfl rfl (Nat.le_of_ble_eq_true rfl) rfl (AftOk.nil _) <| .seq <| .rs fun k1 => .as rfl <| .z <| .seq ?_
 refine .reg (X := Unit) (fun ζ => .of [(6, .one (.d (.v (.bool ((decide (n ≥ lo) && decide (n ≤ hi)))))))] []) [⟨[0], some 7, [], []⟩, ⟨[1], some 8, [], []⟩, ⟨[7, 8], some 9, [], []⟩, ⟨[9], some 10, [], []⟩, ⟨[10, 0], some 11, [], []⟩, ⟨[10, 2], some 12, [], []⟩, ⟨[10, 11, 12], some 13, [], []⟩, ⟨[10, 13], some 14, [], []⟩, ⟨[14], some 6, [], []⟩] (fun k2 => ?_) ?_
 ·skip
  refine .move (.no rfl) rfl rfl rfl rfl <| .move (.no rfl) rfl rfl rfl rfl <| .bin (.no rfl) rfl rfl rfl rfl rfl rfl <| .moveB (.no rfl) rfl rfl rfl rfl fun b3 g1_3 => ?_
  cases b3
  ·skip
   refine .off rfl rfl rfl rfl rfl rfl rfl <| .off rfl rfl rfl rfl rfl rfl rfl <| .off rfl rfl rfl rfl rfl rfl rfl <| .pick (.no rfl) rfl rfl rfl rfl rfl <| .assign (.no rfl) rfl rfl rfl rfl ?_
   exact .fin () (.of (.cons (svB (show (false) = ((decide (n ≥ lo) && decide (n ≤ hi))) by first | (simp only [g1_3, Bool.true_or, Bool.false_or, Bool.true_and, Bool.false_and, Bool.not_true, Bool.not_false]; done) | (simp [g1_3]; done) | (exfalso; simp_all; done))) .nil) .nil)
  ·skip
   refine .move (.on rfl rfl rfl rfl rfl) rfl rfl rfl rfl <| .move (.on rfl rfl rfl rfl rfl) rfl rfl rfl rfl <| .bin (.on rfl rfl rfl rfl rfl) rfl rfl rfl rfl rfl rfl <| .pick (.no rfl) rfl rfl rfl rfl rfl <| .assign (.no rfl) rfl rfl rfl rfl ?_
   exact .fin () (.of (.cons (svB (show (decide (n ≤ hi)) = ((decide (n ≥ lo) && decide (n ≤ hi))) by first | (simp only [g1_3, Bool.true_or, Bool.false_or, Bool.true_and, Bool.false_and, Bool.not_true, Bool.not_false]; done) | (simp [g1_3]; done) | (exfalso; simp_all; done))) .nil) .nil)
 intro _
 refine .ret ?_
 exact fin0 (.inr rfl) (.one (svB (show ((decide (n ≥ lo) && decide (n ≤ hi))) = (inR n lo hi) by (first | rfl | simp_all [inR]))) .nil) (.dd .nil) rfl
theorem c_l3Key (s : ByteArray) : Trip Tryz.prog 103 [(false, 1)] ([.v (.string (s))]) [(false, 1)] [.v (.bool (isKey s))] [] := by
 refine Trip.of Tryz.func103 (by decide) (c := _) rfl rfl (Nat.le_of_ble_eq_true rfl) rfl (AftOk.nil _) <| .seq <| .rs fun k1 => .as rfl <| .z <| .seq <| .rs fun k2 => ?_
 refine .g (fun _ τ => ⟨_, .buildSlice (.no rfl) rfl (els := [[.v (.string ((⟨#[118, 97, 114]⟩ : ByteArray)))], [.v (.string ((⟨#[102, 108, 97, 103]⟩ : ByteArray)))], [.v (.string ((⟨#[97, 114, 114, 97, 121]⟩ : ByteArray)))], [.v (.string ((⟨#[105, 102]⟩ : ByteArray)))], [.v (.string ((⟨#[102, 111, 114, 107]⟩ : ByteArray)))], [.v (.string ((⟨#[101, 108, 115, 101]⟩ : ByteArray)))], [.v (.string ((⟨#[101, 110, 100]⟩ : ByteArray)))], [.v (.string ((⟨#[119, 104, 105, 108, 101]⟩ : ByteArray)))], [.v (.string ((⟨#[117, 110, 114, 111, 108, 108]⟩ : ByteArray)))], [.v (.string ((⟨#[97, 115, 115, 101, 114, 116]⟩ : ByteArray)))], [.v (.string ((⟨#[97, 115, 115, 117, 109, 101]⟩ : ByteArray)))], [.v (.string ((⟨#[105, 110, 112, 117, 116]⟩ : ByteArray)))], [.v (.string ((⟨#[115, 112, 108, 105, 116]⟩ : ByteArray)))], [.v (.string ((⟨#[109, 101, 114, 103, 101]⟩ : ByteArray)))], [.v (.string ((⟨#[116, 114, 117, 101]⟩ : ByteArray)))], [.v (.string ((⟨#[102, 97, 108, 115, 101]⟩ : ByteArray)))]]) t22 rfl z9 rfl rfl rfl rfl rfl rfl rfl rfl (by simp [i9]) (.cons _ _ _ _ _ _ (.d _) (.cons _ _ _ _ _ _ (.d _) (.cons _ _ _ _ _ _ (.d _) (.cons _ _ _ _ _ _ (.d _) (.cons _ _ _ _ _ _ (.d _) (.cons _ _ _ _ _ _ (.d _) (.cons _ _ _ _ _ _ (.d _) (.cons _ _ _ _ _ _ (.d _) (.cons _ _ _ _ _ _ (.d _) (.cons _ _ _ _ _ _ (.d _) (.cons _ _ _ _ _ _ (.d _) (.cons _ _ _ _ _ _ (.d _) (.cons _ _ _ _ _ _ (.d _) (.cons _ _ _ _ _ _ (.d _) (.cons _ _ _ _ _ _ (.d _) (.cons _ _ _ _ _ _ (.d _) .nil)))))))))))))))) rfl rfl rfl τ⟩) ?_
 refine .as rfl <| .z <| .seq <| .seq <| .rs fun k3 => .as rfl <| .z <| .block ?_
 refine .loop (X := Nat × Nat × Nat) (fun ζ => .of [(0, .one (.d (.v (.string (s))))), (3, .one (.ref [5] (ζ.2.1))), (4, .one (.d (.v (.int .i64 ((ζ.1 : Int))))))] [([5], (ζ.2.1, ζ.2.2, .row 9 1 (List.map strc (keys))))]) (fun ζ => ζ.1 ≤ keys.length ∧ allTo ζ.1 (fun i => !strEq (keys.getD i default) s) = true) (fun ζ => keys.length - ζ.1) ?_ ?_
 ·skip
  exact .here (0, k2, k2) (.of (.cons rfl (.cons rfl (.cons (svI (show (0) = ((0 : Int)) by first | rfl | omega | exact wrap_le (by omega) (by omega) | (rw [wrap_le (by omega) (by omega)]; omega))) .nil))) (.cons (rowE (show [[.v (.string ((⟨#[118, 97, 114]⟩ : ByteArray)))], [.v (.string ((⟨#[102, 108, 97, 103]⟩ : ByteArray)))], [.v (.string ((⟨#[97, 114, 114, 97, 121]⟩ : ByteArray)))], [.v (.string ((⟨#[105, 102]⟩ : ByteArray)))], [.v (.string ((⟨#[102, 111, 114, 107]⟩ : ByteArray)))], [.v (.string ((⟨#[101, 108, 115, 101]⟩ : ByteArray)))], [.v (.string ((⟨#[101, 110, 100]⟩ : ByteArray)))], [.v (.string ((⟨#[119, 104, 105, 108, 101]⟩ : ByteArray)))], [.v (.string ((⟨#[117, 110, 114, 111, 108, 108]⟩ : ByteArray)))], [.v (.string ((⟨#[97, 115, 115, 101, 114, 116]⟩ : ByteArray)))], [.v (.string ((⟨#[97, 115, 115, 117, 109, 101]⟩ : ByteArray)))], [.v (.string ((⟨#[105, 110, 112, 117, 116]⟩ : ByteArray)))], [.v (.string ((⟨#[115, 112, 108, 105, 116]⟩ : ByteArray)))], [.v (.string ((⟨#[109, 101, 114, 103, 101]⟩ : ByteArray)))], [.v (.string ((⟨#[116, 114, 117, 101]⟩ : ByteArray)))], [.v (.string ((⟨#[102, 97, 108, 115, 101]⟩ : ByteArray)))]] = List.map strc (keys) by rfl)) .nil)) (show 0 ≤ keys.length ∧ allTo 0 (fun i => !strEq (keys.getD i default) s) = true by exact ⟨by omega, rfl⟩)
 ·rintro ⟨j, q4, q5⟩ hI
  have hI : j ≤ keys.length ∧ allTo j (fun i => !strEq (keys.getD i default) s) = true := hI
  have hk9 : keys.length = 16 := rfl
  dsimp only
  refine .seq <| .seq <| .rs fun k6 => .mv rfl <| .mv rfl <| .g (fun _ τ => ⟨_, .len (.no rfl) rfl (z := (keys.length : Int)) t22 rfl rfl rfl (.ref _ _ _ _ _ rfl) (map_len _ _) rfl τ⟩) <| .bi rfl <| .z ?_
  refine .cond (t := decide ((j : Int) < (keys.length : Int))) rfl (fun c0 => ?_) (fun c0 => ?_)
  ·have c0 := of_decide_eq_true c0
   refine .skip <| .seq <| .block <| .seq <| .rs fun k7 => .mv rfl <| .mv rfl <| .g (fun _ τ => ⟨_, .indexAddr (.no rfl) rfl (j) t22 rfl t9 rfl rfl rfl (.ref _ _ _ _ _ rfl) rfl rfl rfl (map_get (by omega)) rfl rfl τ⟩) <| .ld t9 rfl (.eptr _ _ _ _ _ _ _ _ _ rfl (map_get (by omega))) rfl ?_
   refine .mv rfl <| .bi rfl <| .z ?_
   refine .cond (t := (keys.getD j default).toList == s.toList) rfl (fun c1 => ?_) (fun c1 => ?_)
   ·have c1 := c1
    refine .seq <| .rs fun k8 => .as rfl <| .z <| .ret ?_
    exact fin0 (.inr rfl) (.one (svB (show (true) = (isKey s) by exact (any_found (p := fun x => strEq x s) (j := j) (by omega) c1).symm)) .nil) (.dd .nil) rfl
   ·have c1 := c1
    refine .skip <| .rs fun k10 => .mv rfl <| .bi rfl <| .as rfl <| .z ?_
    exact .here ((j + 1), q4, q5) (.of (.cons rfl (.cons rfl (.cons (svI (show (IntKind.wrap .i64 ((j : Int) + 1)) = (((j + 1) : Int)) by first | rfl | omega | exact wrap_le (by omega) (by omega) | (rw [wrap_le (by omega) (by omega)]; omega))) .nil))) (.r rfl)) ⟨(show (j + 1) ≤ keys.length ∧ allTo (j + 1) (fun i => !strEq (keys.getD i default) s) = true by exact ⟨by omega, allTo_step hI.2 (by rw [show strEq (keys.getD j default) s = false from c1]; rfl)⟩), (show keys.length - (j + 1) < keys.length - j by omega)⟩
  ·have c0 := of_decide_eq_false c0
   refine .exit <| .seq <| .rs fun k11 => .as rfl <| .z <| .ret ?_
   exact fin0 (.inr rfl) (.one (svB (show (false) = (isKey s) by exact (any_none (p := fun x => strEq x s) (j := j) (by omega) hI.2).symm)) .nil) (.dd .nil) rfl
theorem c_l3Name (s : ByteArray) (hs : s.size ≤ 9223372036854775807) : Trip Tryz.prog 70 [(false, 1)] ([.v (.string (s))]) [(false, 1)] [.v (.bool (nmOk s))] [] := by
 refine Trip.of Tryz.func70 (by decide) (c := _) rfl rfl (Nat.le_of_ble_eq_true rfl) rfl (AftOk.nil _) <| .seq <| .rs fun k1 => .as rfl <| .z <| .seq <| .seq <| .rs fun k2 => .as rfl ?_
 refine .z <| .block ?_
 refine .loop (X := Nat) (fun ζ => .of [(0, .one (.d (.v (.string (s))))), (3, .one (.d (.v (.int .i64 ((ζ : Int))))))] []) (fun ζ => ζ ≤ s.size ∧ allTo ζ (fun i => decide (97 ≤ byteAt s i ∧ byteAt s i ≤ 122)) = true) (fun ζ => s.size - ζ) ?_ ?_
 ·skip
  exact .here 0 (.of (.cons rfl (.cons (svI (show (0) = ((0 : Int)) by first | rfl | omega | exact wrap_le (by omega) (by omega) | (rw [wrap_le (by omega) (by omega)]; omega))) .nil)) .nil) (show 0 ≤ s.size ∧ allTo 0 (fun i => decide (97 ≤ byteAt s i ∧ byteAt s i ≤ 122)) = true by exact ⟨by omega, rfl⟩)
 ·rintro j hI
  have hI : j ≤ s.size ∧ allTo j (fun i => decide (97 ≤ byteAt s i ∧ byteAt s i ≤ 122)) = true := hI
  refine .seq <| .seq <| .rs fun k3 => .mv rfl <| .mv rfl <| .g (fun _ τ => ⟨_, .lenStr (.no rfl) rfl t9 rfl rfl rfl rfl rfl τ⟩) <| .bi rfl <| .z ?_
  refine .cond (t := decide ((j : Int) < (s.size : Int))) rfl (fun c0 => ?_) (fun c0 => ?_)
  ·have c0 := of_decide_eq_true c0
   refine .skip <| .seq <| .block <| .seq ?_
   refine .reg (X := Unit) (fun ζ => .of [(0, .one (.d (.v (.string (s))))), (3, .one (.d (.v (.int .i64 ((j : Int)))))), (19, .one (.d (.v (.bool ((decide ((byteAt s j) < 97) || decide ((byteAt s j) > 122)))))))] []) [⟨[0], some 10, [], []⟩, ⟨[3], some 11, [], []⟩, ⟨[10, 11], some 12, [], []⟩, ⟨[12], some 13, [], []⟩, ⟨[13], some 14, [], []⟩, ⟨[14, 0], some 15, [], []⟩, ⟨[14, 3], some 16, [], []⟩, ⟨[14, 15, 16], some 17, [], []⟩, ⟨[14, 17], some 18, [], []⟩, ⟨[14, 18], some 19, [], []⟩] (fun k4 => ?_) ?_
   ·skip
    refine .move (.no rfl) rfl rfl rfl rfl <| .move (.no rfl) rfl rfl rfl rfl <| .indexStr (.no rfl) rfl (z := byteAt s j) (j) t9 rfl rfl rfl rfl rfl (b8_get (by omega)) rfl rfl <| .bin (.no rfl) rfl rfl rfl rfl rfl rfl <| .moveB (.no rfl) rfl rfl rfl rfl fun b5 g4_4 => ?_
    cases b5
    ·skip
     refine .move (.on rfl rfl rfl rfl rfl) rfl rfl rfl rfl <| .move (.on rfl rfl rfl rfl rfl) rfl rfl rfl rfl <| .indexStr (.on rfl rfl rfl rfl rfl) rfl (z := byteAt s j) (j) t9 rfl rfl rfl rfl rfl (b8_get (by omega)) rfl rfl <| .bin (.on rfl rfl rfl rfl rfl) rfl rfl rfl rfl rfl rfl <| .pick (.no rfl) rfl rfl rfl rfl rfl ?_
     exact .fin () (.of (.cons rfl (.cons rfl (.cons (svB (show (decide ((byteAt s j) > 122)) = ((decide ((byteAt s j) < 97) || decide ((byteAt s j) > 122))) by first | (simp only [g4_4, Bool.true_or, Bool.false_or, Bool.true_and, Bool.false_and, Bool.not_true, Bool.not_false]; done) | (simp [g4_4]; done) | (exfalso; simp_all; done))) .nil))) .nil)
    ·skip
     refine .off rfl rfl rfl rfl rfl rfl rfl <| .off rfl rfl rfl rfl rfl rfl rfl <| .off rfl rfl rfl rfl rfl rfl rfl <| .off rfl rfl rfl rfl rfl rfl rfl <| .pick (.no rfl) rfl rfl rfl rfl rfl ?_
     exact .fin () (.of (.cons rfl (.cons rfl (.cons (svB (show (true) = ((decide ((byteAt s j) < 97) || decide ((byteAt s j) > 122))) by first | (simp only [g4_4, Bool.true_or, Bool.false_or, Bool.true_and, Bool.false_and, Bool.not_true, Bool.not_false]; done) | (simp [g4_4]; done) | (exfalso; simp_all; done))) .nil))) .nil)
   intro _
   refine .cond (t := (decide ((byteAt s j) < 97) || decide ((byteAt s j) > 122))) rfl (fun c1 => ?_) (fun c1 => ?_)
   ·have c1 := (oT dT dT) c1
    refine .seq <| .rs fun k6 => .as rfl <| .z <| .ret ?_
    exact fin0 (.inr rfl) (.one (svB (show (false) = (nmOk s) by (simp only [nmOk, letters]; rw [allTo_fail (j := j) (by omega) (by have h9 := byteAt_le s j; simp only [decide_eq_false_iff_not]; omega)]; rfl))) .nil) (.dd .nil) rfl
   ·have c1 := (oF dF dF) c1
    refine .skip <| .rs fun k8 => .mv rfl <| .bi rfl <| .as rfl <| .z ?_
    exact .here (j + 1) (.of (.cons rfl (.cons (svI (show (IntKind.wrap .i64 ((j : Int) + 1)) = (((j + 1) : Int)) by first | rfl | omega | exact wrap_le (by omega) (by omega) | (rw [wrap_le (by omega) (by omega)]; omega))) .nil)) .nil) ⟨(show (j + 1) ≤ s.size ∧ allTo (j + 1) (fun i => decide (97 ≤ byteAt s i ∧ byteAt s i ≤ 122)) = true by exact ⟨by omega, allTo_step hI.2 (by simp only [decide_eq_true_eq]; omega)⟩), (show s.size - (j + 1) < s.size - j by omega)⟩
  ·have c0 := of_decide_eq_false c0
   refine .exit <| .seq ?_
   refine .reg (X := Unit) (fun ζ => .of [(2, .one (.d (.v (.bool ((inR (s.size : Int) 1 8 && !(isKey s)))))))] []) [⟨[0], some 20, [], []⟩, ⟨[20], some 21, [], []⟩, ⟨[21], some 22, [], []⟩, ⟨[22], some 23, [], []⟩, ⟨[23, 0], some 24, [], []⟩, ⟨[23, 24], some 25, [], []⟩, ⟨[23, 25], some 26, [], []⟩, ⟨[23, 26], some 27, [], []⟩, ⟨[27], some 2, [], []⟩] (fun k9 => ?_) ?_
   ·skip
    refine .move (.no rfl) rfl rfl rfl rfl <| .lenStr (.no rfl) rfl t9 rfl rfl rfl rfl rfl <| .call (.no rfl) rfl [] [] (c_l1In (s.size : Int) 1 8) rfl rfl rfl rfl rfl (.dd (.dd (.dd .nil))) rfl rfl (fun h => absurd rfl h) (.own [22, 0] .nil) (.nil) rfl rfl rfl (by simp) rfl rfl rfl <| .moveB (.no rfl) rfl rfl rfl rfl fun b10 g6_3 => ?_
    cases b10
    ·skip
     refine .off rfl rfl rfl rfl rfl rfl rfl <| .off rfl rfl rfl rfl rfl rfl rfl <| .off rfl rfl rfl rfl rfl rfl rfl <| .pick (.no rfl) rfl rfl rfl rfl rfl <| .assign (.no rfl) rfl rfl rfl rfl ?_
     exact .fin () (.of (.cons (svB (show (false) = ((inR (s.size : Int) 1 8 && !(isKey s))) by first | (simp only [g6_3, Bool.true_or, Bool.false_or, Bool.true_and, Bool.false_and, Bool.not_true, Bool.not_false]; done) | (simp [g6_3]; done) | (exfalso; simp_all; done))) .nil) .nil)
    ·skip
     refine .move (.on rfl rfl rfl rfl rfl) rfl rfl rfl rfl <| .call (.on rfl rfl rfl rfl rfl) rfl [] [] (c_l3Key s) rfl rfl rfl rfl rfl (.dd .nil) rfl rfl (fun h => absurd rfl h) (.own [25, 0] .nil) (.nil) rfl rfl rfl (by simp) rfl rfl rfl <| .un (.on rfl rfl rfl rfl rfl) rfl rfl rfl rfl rfl <| .pick (.no rfl) rfl rfl rfl rfl rfl <| .assign (.no rfl) rfl rfl rfl rfl ?_
     exact .fin () (.of (.cons (svB (show (!(isKey s)) = ((inR (s.size : Int) 1 8 && !(isKey s))) by first | (simp only [g6_3, Bool.true_or, Bool.false_or, Bool.true_and, Bool.false_and, Bool.not_true, Bool.not_false]; done) | (simp [g6_3]; done) | (exfalso; simp_all; done))) .nil) .nil)
   intro _
   refine .ret ?_
   exact fin0 (.inr rfl) (.one (svB (show ((inR (s.size : Int) 1 8 && !(isKey s))) = (nmOk s) by (have hj : j = s.size := (by omega); subst hj; simp only [nmOk, letters]; rw [hI.2]; first | rfl | simp_all))) .nil) (.dd .nil) rfl
theorem c_l3Place (l : List ByteArray) (s : ByteArray) : Trip Tryz.prog 71 [(false, 1), (false, 1)] ([.sl false 9 1 (List.map strc (l))] ++ [.v (.string (s))]) [(false, 1)] [.v (.int .i64 (place l s))] [] := by
 refine Trip.of Tryz.func71 (by decide) (c := _) rfl rfl (Nat.le_of_ble_eq_true rfl) rfl (AftOk.nil _) <| .sl (t := 0) rfl fun hs1l => .seq <| .rs fun k2 => .as rfl <| .z <| .seq <| .seq <| .rs fun k3 => ?_
 refine .as rfl <| .z <| .block ?_
 refine .loop (X := Nat) (fun ζ => .of [(0, .one (.d (.sl false 9 1 (List.map strc (l))))), (1, .one (.d (.v (.string (s))))), (5, .one (.d (.v (.int .i64 ((ζ : Int))))))] []) (fun ζ => ζ ≤ l.length ∧ allTo ζ (fun i => !strEq (l.getD i default) s) = true) (fun ζ => l.length - ζ) ?_ ?_
 ·skip
  exact .here 0 (.of (.cons rfl (.cons rfl (.cons (svI (show (0) = ((0 : Int)) by first | rfl | omega | exact wrap_le (by omega) (by omega) | (rw [wrap_le (by omega) (by omega)]; omega))) .nil))) .nil) (show 0 ≤ l.length ∧ allTo 0 (fun i => !strEq (l.getD i default) s) = true by exact ⟨by omega, rfl⟩)
 ·rintro j hI
  have hI : j ≤ l.length ∧ allTo j (fun i => !strEq (l.getD i default) s) = true := hI
  refine .seq <| .seq <| .rs fun k4 => .mv rfl <| .mv rfl <| .g (fun _ τ => ⟨_, .len (.no rfl) rfl (z := (l.length : Int)) t22 rfl rfl rfl (.d _ _) (map_len _ _) rfl τ⟩) <| .bi rfl <| .z ?_
  refine .cond (t := decide ((j : Int) < (l.length : Int))) rfl (fun c0 => ?_) (fun c0 => ?_)
  ·have c0 := of_decide_eq_true c0
   refine .skip <| .seq <| .block <| .seq <| .rs fun k5 => .mv rfl <| .mv rfl <| .g (fun _ τ => ⟨_, .indexAddr (.no rfl) rfl (j) t22 rfl t9 rfl rfl rfl (.d _ _) rfl rfl rfl (map_get (by omega)) rfl rfl τ⟩) <| .ld t9 rfl (.d _) rfl ?_
   refine .mv rfl <| .bi rfl <| .z ?_
   refine .cond (t := (l.getD j default).toList == s.toList) rfl (fun c1 => ?_) (fun c1 => ?_)
   ·have c1 := c1
    refine .seq <| .rs fun k6 => .mv rfl <| .as rfl <| .z <| .ret ?_
    exact fin0 (.inr rfl) (.one (svI (show ((j : Int)) = (place l s) by exact (idx_found (p := fun x => strEq x s) (by omega) hI.2 c1).symm)) .nil) (.dd .nil) rfl
   ·have c1 := c1
    refine .skip <| .rs fun k8 => .mv rfl <| .bi rfl <| .as rfl <| .z ?_
    exact .here (j + 1) (.of (.cons rfl (.cons rfl (.cons (svI (show (IntKind.wrap .i64 ((j : Int) + 1)) = (((j + 1) : Int)) by first | rfl | omega | exact wrap_le (by omega) (by omega) | (rw [wrap_le (by omega) (by omega)]; omega))) .nil))) .nil) ⟨(show (j + 1) ≤ l.length ∧ allTo (j + 1) (fun i => !strEq (l.getD i default) s) = true by exact ⟨by omega, allTo_step hI.2 (by rw [show strEq (l.getD j default) s = false from c1]; rfl)⟩), (show l.length - (j + 1) < l.length - j by omega)⟩
  ·have c0 := of_decide_eq_false c0
   refine .exit <| .seq <| .rs fun k9 => .as rfl <| .z <| .ret ?_
   exact fin0 (.inr rfl) (.one (svI (show (-1) = (place l s) by exact (idx_none (p := fun x => strEq x s) (j := j) (by omega) hI.2).symm)) .nil) (.dd .nil) rfl
end Go.Proofs

namespace Go.Proofs
open Go Go.Proofs Go.Ev

theorem c_sDeclOk (d : Decl) (hs : ∀ x ∈ Decl.names d, x.size ≤ 9223372036854775807) (hb : d.vars.length ≤ 1048576 ∧ d.flags.length ≤ 1048576 ∧ d.arrays.length ≤ 1048576) : Trip Tryz.prog 41 [(true, 3)] (Decl.c34 d) [(false, 1)] [.v (.bool (Decl.ok d))] [] := by
 refine Trip.of Tryz.func41 (by decide) (c := _) rfl rfl (Nat.le_of_ble_eq_true rfl) rfl (AftOk.nil _) <| .sla (t := 0) 0 rfl rfl fun hs1l => .sla (t := 0) 1 rfl rfl fun hs2l => .sla (t := 0) 2 rfl rfl fun hs3l => .seq <| .rs fun k4 => .g (fun _ τ => ⟨_, .box (.no rfl) rfl rfl rfl rfl rfl τ⟩) <| .as rfl <| .z ?_
 refine .seq <| .seq ?_
 refine .reg (X := Unit) (fun ζ => .of [(1, .one (.ptr [1] (k4) 0)), (21, .one (.d (.v (.bool (((decide ((d.vars.length : Int) > 5) || decide ((d.flags.length : Int) > 3)) || decide ((d.arrays.length : Int) > 2)))))))] [([1], (k4, k4, .box [.d (.sl false 9 1 (List.map strc (d.vars))), .d (.sl false 9 1 (List.map strc (d.flags))), .d (.sl false 115 2 (List.map Arr.c (d.arrays)))]))]) [⟨[1], some 6, [], []⟩, ⟨[6], some 7, [[1]], []⟩, ⟨[7], some 8, [], []⟩, ⟨[8], some 9, [], []⟩, ⟨[9], some 10, [], []⟩, ⟨[10, 1], some 11, [], []⟩, ⟨[10, 11], some 12, [[1]], []⟩, ⟨[10, 12], some 13, [], []⟩, ⟨[10, 13], some 14, [], []⟩, ⟨[10, 14], some 15, [], []⟩, ⟨[15], some 16, [], []⟩, ⟨[16, 1], some 17, [], []⟩, ⟨[16, 17], some 18, [[1]], []⟩, ⟨[16, 18], some 19, [], []⟩, ⟨[16, 19], some 20, [], []⟩, ⟨[16, 20], some 21, [], []⟩] (fun k5 => ?_) ?_
 ·skip
  refine .fieldAddrP (.no rfl) rfl t34 rfl rfl t22 rfl rfl rfl rfl <| .load (.no rfl) rfl t22 rfl rfl (.ptr _ _ _ _ _ rfl) rfl rfl rfl rfl <| .len (.no rfl) rfl (z := (d.vars.length : Int)) t22 rfl rfl rfl (.d _ _) (map_len _ _) rfl <| .bin (.no rfl) rfl rfl rfl rfl rfl rfl <| .moveB (.no rfl) rfl rfl rfl rfl fun b6 g1_4 => ?_
  cases b6
  ·skip
   refine .fieldAddrP (.on rfl rfl rfl rfl rfl) rfl t34 rfl rfl t22 rfl rfl rfl rfl <| .load (.on rfl rfl rfl rfl rfl) rfl t22 rfl rfl (.ptr _ _ _ _ _ rfl) rfl rfl rfl rfl <| .len (.on rfl rfl rfl rfl rfl) rfl (z := (d.flags.length : Int)) t22 rfl rfl rfl (.d _ _) (map_len _ _) rfl <| .bin (.on rfl rfl rfl rfl rfl) rfl rfl rfl rfl rfl rfl <| .pick (.no rfl) rfl rfl rfl rfl rfl <| .moveB (.no rfl) rfl rfl rfl rfl fun b7 g1_10 => ?_
   cases b7
   ·skip
    refine .fieldAddrP (.on rfl rfl rfl rfl rfl) rfl t34 rfl rfl t32 rfl rfl rfl rfl <| .load (.on rfl rfl rfl rfl rfl) rfl t32 rfl rfl (.ptr _ _ _ _ _ rfl) rfl rfl rfl rfl <| .len (.on rfl rfl rfl rfl rfl) rfl (z := (d.arrays.length : Int)) t32 rfl rfl rfl (.d _ _) (map_len _ _) rfl <| .bin (.on rfl rfl rfl rfl rfl) rfl rfl rfl rfl rfl rfl <| .pick (.no rfl) rfl rfl rfl rfl rfl ?_
    exact .fin () (.of (.cons rfl (.cons (svB (show (decide ((d.arrays.length : Int) > 2)) = (((decide ((d.vars.length : Int) > 5) || decide ((d.flags.length : Int) > 3)) || decide ((d.arrays.length : Int) > 2))) by first | (simp only [g1_4, g1_10, Bool.true_or, Bool.false_or, Bool.true_and, Bool.false_and, Bool.not_true, Bool.not_false]; done) | (simp [g1_4, g1_10]; done) | (exfalso; simp_all; done))) .nil)) (.r rfl))
   ·skip
    refine .off rfl rfl rfl rfl rfl rfl rfl <| .off rfl rfl rfl rfl rfl rfl rfl <| .off rfl rfl rfl rfl rfl rfl rfl <| .off rfl rfl rfl rfl rfl rfl rfl <| .pick (.no rfl) rfl rfl rfl rfl rfl ?_
    exact .fin () (.of (.cons rfl (.cons (svB (show (true) = (((decide ((d.vars.length : Int) > 5) || decide ((d.flags.length : Int) > 3)) || decide ((d.arrays.length : Int) > 2))) by first | (simp only [g1_4, g1_10, Bool.true_or, Bool.false_or, Bool.true_and, Bool.false_and, Bool.not_true, Bool.not_false]; done) | (simp [g1_4, g1_10]; done) | (exfalso; simp_all; done))) .nil)) (.r rfl))
  ·skip
   refine .off rfl rfl rfl rfl rfl rfl rfl <| .off rfl rfl rfl rfl rfl rfl rfl <| .off rfl rfl rfl rfl rfl rfl rfl <| .off rfl rfl rfl rfl rfl rfl rfl <| .pick (.no rfl) rfl rfl rfl rfl rfl <| .move (.no rfl) rfl rfl rfl rfl <| .off rfl rfl rfl rfl rfl rfl rfl <| .off rfl rfl rfl rfl rfl rfl rfl <| .off rfl rfl rfl rfl rfl rfl rfl ?_
   refine .off rfl rfl rfl rfl rfl rfl rfl <| .pick (.no rfl) rfl rfl rfl rfl rfl ?_
   exact .fin () (.of (.cons rfl (.cons (svB (show (true) = (((decide ((d.vars.length : Int) > 5) || decide ((d.flags.length : Int) > 3)) || decide ((d.arrays.length : Int) > 2))) by first | (simp only [g1_4, Bool.true_or, Bool.false_or, Bool.true_and, Bool.false_and, Bool.not_true, Bool.not_false]; done) | (simp [g1_4]; done) | (exfalso; simp_all; done))) .nil)) (.r rfl))
 intro _
 refine .cond (t := ((decide ((d.vars.length : Int) > 5) || decide ((d.flags.length : Int) > 3)) || decide ((d.arrays.length : Int) > 2))) rfl (fun c0 => ?_) (fun c0 => ?_)
 ·have c0 := (oT (oT dT dT) dT) c0
  refine .seq <| .rs fun k8 => .as rfl <| .z <| .ret ?_
  exact fin0 (.inr rfl) (.one (svB (show (false) = (Decl.ok d) by exact (Decl.ok_ne (by omega)).symm)) .nil) (.dd .nil) rfl
 ·have c0 := (oF (oF dF dF) dF) c0
  refine .skip <| .seq ?_
  refine .regD (X := Nat) (by kernel_rfl) (fun ζ => .of [(1, .one (.ptr [1] (k4) 0)), (3, .one (.ref [22] (ζ)))] [([1], (k4, k4, .box [.d (.sl false 9 1 (List.map strc (d.vars))), .d (.sl false 9 1 (List.map strc (d.flags))), .d (.sl false 115 2 (List.map Arr.c (d.arrays)))])), ([22], (ζ, ζ, .row 9 1 (List.map strc (d.vars ++ d.flags))))]) [⟨[], some 22, [], [[22]]⟩, ⟨[1], some 23, [], []⟩, ⟨[23], some 24, [[1]], []⟩, ⟨[22, 24], some 25, [[22]], [[22]]⟩, ⟨[1], some 26, [], []⟩, ⟨[26], some 27, [[1]], []⟩, ⟨[25, 27], some 28, [[22]], [[22]]⟩, ⟨[28], some 3, [], []⟩] (by kernel_rfl) (fun k10 => ?_) ?_
  ·skip
   refine .buildSlice (.no rfl) rfl (els := []) t22 rfl z9 rfl rfl rfl rfl rfl rfl rfl rfl (by simp [i9]) .nil rfl rfl rfl <| .fieldAddrP (.no rfl) rfl t34 rfl rfl t22 rfl rfl rfl rfl <| .load (.no rfl) rfl t22 rfl rfl (.ptr _ _ _ _ _ rfl) rfl rfl rfl rfl <| .append (.no rfl) rfl (l3 := List.map strc (d.vars)) t22 rfl z9 rfl rfl rfl rfl rfl rfl rfl rfl (.ref _ _ _ _ rfl) (.ro _ _) rfl (by simp [i9]; omega) (List.nil_append _) rfl rfl <| .fieldAddrP (.no rfl) rfl t34 rfl rfl t22 rfl rfl rfl rfl <| .load (.no rfl) rfl t22 rfl rfl (.ptr _ _ _ _ _ rfl) rfl rfl rfl rfl <| .append (.no rfl) rfl (l3 := List.map strc (d.vars ++ d.flags)) t22 rfl z9 rfl rfl rfl rfl rfl rfl rfl rfl (.ref _ _ _ _ rfl) (.ro _ _) rfl (by simp [i9]; omega) (map_app _ _ _) rfl rfl <| .assign (.no rfl) rfl rfl rfl rfl ?_
   exact .fin (k10 + 1 + 1 + 1 + 1 + 1 + 1) (.of (.r rfl) (.r rfl))
  intro g11
  refine .seq <| .seq <| .rs fun k12 => .as rfl <| .z <| .block ?_
  refine .loop (X := Nat × Nat × Nat) (fun ζ => .of [(1, .one (.ptr [1] (k4) 0)), (3, .one (.ref [22] (ζ.2.1))), (4, .one (.d (.v (.int .i64 ((ζ.1 : Int))))))] [([1], (k4, k4, .box [.d (.sl false 9 1 (List.map strc (d.vars))), .d (.sl false 9 1 (List.map strc (d.flags))), .d (.sl false 115 2 (List.map Arr.c (d.arrays)))])), ([22], (ζ.2.1, ζ.2.2, .row 9 1 (List.map strc (d.vars ++ d.flags ++ (d.arrays.take ζ.1).map Arr.name))))]) (fun ζ => ζ.1 ≤ d.arrays.length ∧ allTo ζ.1 (fun i => inR (d.arrays.getD i default).size 1 16) = true) (fun ζ => d.arrays.length - ζ.1) ?_ ?_
  ·skip
   exact .here (0, g11, g11) (.of (.cons rfl (.cons rfl (.cons (svI (show (0) = ((0 : Int)) by first | rfl | omega | exact wrap_le (by omega) (by omega) | (rw [wrap_le (by omega) (by omega)]; omega))) .nil))) (.cons rfl (.cons (rowE (show List.map strc (d.vars ++ d.flags) = List.map strc (d.vars ++ d.flags ++ (d.arrays.take 0).map Arr.name) by first | (simp; done) | (rw [List.append_assoc (d.vars ++ d.flags), take_step (f := Arr.name) (by omega)]) | (simp only [Decl.names]; rw [List.take_of_length_le (by omega)]))) .nil))) (show 0 ≤ d.arrays.length ∧ allTo 0 (fun i => inR (d.arrays.getD i default).size 1 16) = true by exact ⟨by omega, rfl⟩)
  ·rintro ⟨j, q13, q14⟩ hI
   have hI : j ≤ d.arrays.length ∧ allTo j (fun i => inR (d.arrays.getD i default).size 1 16) = true := hI
   dsimp only
   refine .seq <| .seq <| .rs fun k15 => .mv rfl <| .fp t34 t32 rfl <| .ld t32 rfl (.ptr _ _ _ _ _ rfl) rfl <| .g (fun _ τ => ⟨_, .len (.no rfl) rfl (z := (d.arrays.length : Int)) t32 rfl rfl rfl (.d _ _) (map_len _ _) rfl τ⟩) <| .bi rfl <| .z ?_
   refine .cond (t := decide ((j : Int) < (d.arrays.length : Int))) rfl (fun c1 => ?_) (fun c1 => ?_)
   ·have c1 := of_decide_eq_true c1
    refine .skip <| .seq <| .block <| .seq <| .seq <| .rs fun k16 => .fp t34 t32 rfl <| .ld t32 rfl (.ptr _ _ _ _ _ rfl) rfl <| .mv rfl ?_
    refine .g (fun _ τ => ⟨_, .indexAddr (.no rfl) rfl (j) t32 rfl t115 rfl rfl rfl (.d _ _) rfl rfl rfl (map_get (by omega)) rfl rfl τ⟩) <| .g (fun _ τ => ⟨_, .fieldAddr (.no rfl) rfl t115 rfl rfl t2 rfl rfl rfl rfl [] (by simp) (by intro _ _ _ h; cases h) rfl rfl τ⟩) <| .ld t2 rfl (.d _) rfl <| .c0 (c_l1In ((d.arrays.getD j default).size) 1 16) rfl (.dd (.dd (.dd .nil))) (.own [42, 0] .nil) rfl <| .un rfl <| .z ?_
    refine .cond (t := !(inR ((d.arrays.getD j default).size) 1 16)) rfl (fun c2 => ?_) (fun c2 => ?_)
    ·have c2 := (nT id) c2
     refine .seq <| .rs fun k17 => .as rfl <| .z <| .ret ?_
     exact fin0 (.inr rfl) (.one (svB (show (false) = (Decl.ok d) by exact (Decl.ok_size (j := j) (by omega) c2).symm)) .nil) (.dd .nil) rfl
    ·have c2 := (nF id) c2
     refine .skip <| .rs fun k19 => .mv rfl <| .fp t34 t32 rfl <| .ld t32 rfl (.ptr _ _ _ _ _ rfl) rfl <| .mv rfl <| .g (fun _ τ => ⟨_, .indexAddr (.no rfl) rfl (j) t32 rfl t115 rfl rfl rfl (.d _ _) rfl rfl rfl (map_get (by omega)) rfl rfl τ⟩) <| .g (fun _ τ => ⟨_, .fieldAddr (.no rfl) rfl t115 rfl rfl t9 rfl rfl rfl rfl [] (by simp) (by intro _ _ _ h; cases h) rfl rfl τ⟩) <| .ld t9 rfl (.d _) rfl ?_
     refine .g (fun _ τ => ⟨_, .buildSlice (.no rfl) rfl (els := [[.v (.string ((d.arrays.getD j default).name))]]) t22 rfl z9 rfl rfl rfl rfl rfl rfl rfl rfl (by simp [i9]) (.cons _ _ _ _ _ _ (.d _) .nil) rfl rfl rfl τ⟩) <| .g (fun _ τ => ⟨_, .append (.no rfl) rfl (l3 := List.map strc (d.vars ++ d.flags ++ (d.arrays.take j).map Arr.name ++ [(d.arrays.getD j default).name])) t22 rfl z9 rfl rfl rfl rfl rfl rfl rfl rfl (.ref _ _ _ _ rfl) (.take _ _ _ _ _ rfl) rfl (by simp [i9]; omega) (map_snoc _ _ _) rfl rfl τ⟩) <| .as rfl <| .z <| .rs fun k20 => .mv rfl <| .bi rfl <| .as rfl <| .z ?_
     exact .here ((j + 1), (k19 + 1 + 1 + 1 + 1 + 1 + 1 + 1 + 1), (k19 + 1 + 1 + 1 + 1 + 1 + 1 + 1 + 1)) (.of (.cons rfl (.cons (by show SV.one (.ref [22] (k19 + 1 + 1 + 1 + 1 + 1 + 1 + 1 + 1)) = SV.one (.ref [22] ((k19 + 1 + 1 + 1 + 1 + 1 + 1 + 1 + 1))); first | rfl | simp_all) (.cons (svI (show (IntKind.wrap .i64 ((j : Int) + 1)) = (((j + 1) : Int)) by first | rfl | omega | exact wrap_le (by omega) (by omega) | (rw [wrap_le (by omega) (by omega)]; omega))) .nil))) (.cons rfl (.cons (rowE (show List.map strc (d.vars ++ d.flags ++ (d.arrays.take j).map Arr.name ++ [(d.arrays.getD j default).name]) = List.map strc (d.vars ++ d.flags ++ (d.arrays.take (j + 1)).map Arr.name) by first | (simp; done) | (rw [List.append_assoc (d.vars ++ d.flags), take_step (f := Arr.name) (by omega)]) | (simp only [Decl.names]; rw [List.take_of_length_le (by omega)]))) .nil))) ⟨(show (j + 1) ≤ d.arrays.length ∧ allTo (j + 1) (fun i => inR (d.arrays.getD i default).size 1 16) = true by exact ⟨by omega, allTo_step hI.2 (by simpa using c2)⟩), (show d.arrays.length - (j + 1) < d.arrays.length - j by omega)⟩
   ·have c1 := of_decide_eq_false c1
    refine .exit <| .seq <| .seq <| .rs fun k21 => .as rfl <| .z <| .block ?_
    refine .loop (X := Nat × Nat × Nat) (fun ζ => .of [(3, .one (.ref [22] (ζ.2.1))), (5, .one (.d (.v (.int .i64 ((ζ.1 : Int))))))] [([22], (ζ.2.1, ζ.2.2, .row 9 1 (List.map strc (Decl.names d))))]) (fun ζ => ζ.1 ≤ (Decl.names d).length ∧ allTo ζ.1 (nameOk (Decl.names d)) = true) (fun ζ => (Decl.names d).length - ζ.1) ?_ ?_
    ·skip
     exact .here (0, q13, q14) (.of (.cons rfl (.cons (svI (show (0) = ((0 : Int)) by first | rfl | omega | exact wrap_le (by omega) (by omega) | (rw [wrap_le (by omega) (by omega)]; omega))) .nil)) (.cons (rowE (show List.map strc (d.vars ++ d.flags ++ (d.arrays.take j).map Arr.name) = List.map strc (Decl.names d) by first | (simp; done) | (rw [List.append_assoc (d.vars ++ d.flags), take_step (f := Arr.name) (by omega)]) | (simp only [Decl.names]; rw [List.take_of_length_le (by omega)]))) .nil)) (show 0 ≤ (Decl.names d).length ∧ allTo 0 (nameOk (Decl.names d)) = true by exact ⟨by omega, rfl⟩)
    ·rintro ⟨i, q22, q23⟩ hI
     have hI : i ≤ (Decl.names d).length ∧ allTo i (nameOk (Decl.names d)) = true := hI
     have hI0 := ‹j ≤ d.arrays.length ∧ _›
     have hn9 : (Decl.names d).length ≤ 3145728 := by simp [Decl.names]; omega
     dsimp only
     refine .seq <| .seq <| .rs fun k24 => .mv rfl <| .mv rfl <| .g (fun _ τ => ⟨_, .len (.no rfl) rfl (z := ((Decl.names d).length : Int)) t22 rfl rfl rfl (.ref _ _ _ _ _ rfl) (map_len _ _) rfl τ⟩) <| .bi rfl <| .z ?_
     refine .cond (t := decide ((i : Int) < ((Decl.names d).length : Int))) rfl (fun c3 => ?_) (fun c3 => ?_)
     ·have c3 := of_decide_eq_true c3
      refine .skip <| .seq <| .block <| .seq ?_
      refine .regD (X := Unit) (by kernel_rfl) (fun ζ => .of [(3, .one (.ref [22] (q22))), (5, .one (.d (.v (.int .i64 ((i : Int)))))), (75, .one (.d (.v (.bool ((!(nmOk ((Decl.names d).getD (i) default)) || decide ((place ((Decl.names d).take i) ((Decl.names d).getD (i) default)) ≥ 0)))))))] [([22], (q22, q23, .row 9 1 (List.map strc (Decl.names d))))]) [⟨[3], some 59, [], []⟩, ⟨[5], some 60, [], []⟩, ⟨[59, 60], some 61, [[22]], []⟩, ⟨[61], some 62, [[22]], []⟩, ⟨[62], some 63, [], []⟩, ⟨[63], some 64, [], []⟩, ⟨[64], some 65, [], []⟩, ⟨[65, 3], some 66, [], []⟩, ⟨[65, 5], some 67, [], []⟩, ⟨[65, 66, 67], some 68, [[22]], []⟩, ⟨[65, 3], some 69, [], []⟩, ⟨[65, 5], some 70, [], []⟩, ⟨[65, 69, 70], some 71, [[22]], []⟩, ⟨[65, 71], some 72, [[22]], []⟩, ⟨[65, 68, 72], some 73, [[22]], []⟩, ⟨[65, 73], some 74, [], []⟩, ⟨[65, 74], some 75, [], []⟩] (by kernel_rfl) (fun k25 => ?_) ?_
      ·skip
       refine .move (.no rfl) rfl rfl rfl rfl <| .move (.no rfl) rfl rfl rfl rfl <| .indexAddr (.no rfl) rfl (i) t22 rfl t9 rfl rfl rfl (.ref _ _ _ _ _ rfl) rfl rfl rfl (map_get (by omega)) rfl rfl <| .load (.no rfl) rfl t9 rfl rfl (.eptr _ _ _ _ _ _ _ _ _ rfl (map_get (by omega))) rfl rfl rfl rfl <| .call (.no rfl) rfl [] [] (c_l3Name ((Decl.names d).getD (i) default) (by exact hs _ (getD_mem (by omega)))) rfl rfl rfl rfl rfl (.dd .nil) rfl rfl (fun h => absurd rfl h) (.own [63, 0] .nil) (.nil) rfl rfl rfl (by simp) rfl rfl rfl <| .un (.no rfl) rfl rfl rfl rfl rfl <| .moveB (.no rfl) rfl rfl rfl rfl fun b26 g13_6 => ?_
       cases b26
       ·skip
        refine .move (.on rfl rfl rfl rfl rfl) rfl rfl rfl rfl <| .move (.on rfl rfl rfl rfl rfl) rfl rfl rfl rfl <| .slice (.on rfl rfl rfl rfl rfl) rfl (lv := 0) (hv := i) (m := q23) t22 rfl t9 rfl rfl (.ref _ _ _ _ _ rfl) rfl (by intro _ _ h; cases h; exact ⟨_, .head _⟩) (by exact rfl) (by exact ⟨_, rfl⟩) (Nat.zero_le _) (le_map (by omega)) rfl rfl <| .move (.on rfl rfl rfl rfl rfl) rfl rfl rfl rfl <| .move (.on rfl rfl rfl rfl rfl) rfl rfl rfl rfl <| .indexAddr (.on rfl rfl rfl rfl rfl) rfl (i) t22 rfl t9 rfl rfl rfl (.ref _ _ _ _ _ rfl) rfl rfl rfl (map_get (by omega)) rfl rfl <| .load (.on rfl rfl rfl rfl rfl) rfl t9 rfl rfl (.eptr _ _ _ _ _ _ _ _ _ rfl (map_get (by omega))) rfl rfl rfl rfl ?_
        refine .call (.on rfl rfl rfl rfl rfl) rfl [[22]] [([22], (q22, q23, .row 9 1 (List.map strc (Decl.names d))))] (c_l3Place ((Decl.names d).take i) ((Decl.names d).getD (i) default)) rfl rfl rfl rfl rfl (.cons (Reads.cut (Frz.of_erase (erase_takeo _ _ _ _ _ _ strc_e)) (le_map (by omega)) (.head _) (.head _)).gives (.dd .nil)) rfl rfl (fun _ => (ownCons (Owned.v _) ownNil)) (.own [73, 0] .nil) (.nil) rfl rfl rfl (AllH.get (.r rfl)) rfl rfl rfl <| .bin (.on rfl rfl rfl rfl rfl) rfl rfl rfl rfl rfl rfl <| .pick (.no rfl) rfl rfl rfl rfl rfl ?_
        exact .fin () (.of (.cons rfl (.cons rfl (.cons (svB (show (decide ((place ((Decl.names d).take i) ((Decl.names d).getD (i) default)) ≥ 0)) = ((!(nmOk ((Decl.names d).getD (i) default)) || decide ((place ((Decl.names d).take i) ((Decl.names d).getD (i) default)) ≥ 0))) by first | (simp only [g13_6, Bool.true_or, Bool.false_or, Bool.true_and, Bool.false_and, Bool.not_true, Bool.not_false]; done) | (simp [g13_6]; done) | (exfalso; simp_all; done))) .nil))) (.r rfl))
       ·skip
        refine .off rfl rfl rfl rfl rfl rfl rfl <| .off rfl rfl rfl rfl rfl rfl rfl <| .off rfl rfl rfl rfl rfl rfl rfl <| .off rfl rfl rfl rfl rfl rfl rfl <| .off rfl rfl rfl rfl rfl rfl rfl <| .off rfl rfl rfl rfl rfl rfl rfl <| .off rfl rfl rfl rfl rfl rfl rfl <| .off rfl rfl rfl rfl rfl rfl rfl <| .off rfl rfl rfl rfl rfl rfl rfl ?_
        refine .pick (.no rfl) rfl rfl rfl rfl rfl ?_
        exact .fin () (.of (.cons rfl (.cons rfl (.cons (svB (show (true) = ((!(nmOk ((Decl.names d).getD (i) default)) || decide ((place ((Decl.names d).take i) ((Decl.names d).getD (i) default)) ≥ 0))) by first | (simp only [g13_6, Bool.true_or, Bool.false_or, Bool.true_and, Bool.false_and, Bool.not_true, Bool.not_false]; done) | (simp [g13_6]; done) | (exfalso; simp_all; done))) .nil))) (.r rfl))
      intro _
      refine .cond (t := (!(nmOk ((Decl.names d).getD (i) default)) || decide ((place ((Decl.names d).take i) ((Decl.names d).getD (i) default)) ≥ 0))) rfl (fun c4 => ?_) (fun c4 => ?_)
      ·have c4 := (oT (nT id) dT) c4
       refine .seq <| .rs fun k27 => .as rfl <| .z <| .ret ?_
       exact fin0 (.inr rfl) (.one (svB (show (false) = (Decl.ok d) by exact (Decl.ok_name (j := i) (by omega) c4).symm)) .nil) (.dd .nil) rfl
      ·have c4 := (oF (nF id) dF) c4
       refine .skip <| .rs fun k29 => .mv rfl <| .bi rfl <| .as rfl <| .z ?_
       exact .here ((i + 1), q22, q23) (.of (.cons rfl (.cons (svI (show (IntKind.wrap .i64 ((i : Int) + 1)) = (((i + 1) : Int)) by first | rfl | omega | exact wrap_le (by omega) (by omega) | (rw [wrap_le (by omega) (by omega)]; omega))) .nil)) (.r rfl)) ⟨(show (i + 1) ≤ (Decl.names d).length ∧ allTo (i + 1) (nameOk (Decl.names d)) = true by exact ⟨by omega, allTo_step hI.2 (nameOk_of c4)⟩), (show (Decl.names d).length - (i + 1) < (Decl.names d).length - i by omega)⟩
     ·have c3 := of_decide_eq_false c3
      refine .exit <| .seq <| .rs fun k30 => .as rfl <| .z <| .ret ?_
      exact fin0 (.inr rfl) (.one (svB (show (true) = (Decl.ok d) by exact (Decl.ok_done (by omega) hI0.2 (by omega) (j := i) (by omega) hI.2).symm)) .nil) (.dd .nil) rfl
end Go.Proofs

namespace Go.Proofs
open Go Go.Proofs Go.Ev

def slc22 (x : List ByteArray) : List D := [.sl false 9 1 (List.map strc (x))]
theorem slc22_e (x : List ByteArray) : (slc22 x).map D.erase = slc22 x := by simp [slc22, erase_slo _ _ _ _ _ _ strc_e]
def slco22 (x : List ByteArray) : List D := [.sl true 9 1 (List.map strc (x))]
theorem slco22_e (x : List ByteArray) : (slco22 x).map D.erase = slc22 x := by simp [slco22, slc22, erase_slo _ _ _ _ _ _ strc_e]
theorem slco22_o (x : List ByteArray) : ∀ d ∈ slco22 x, Owned d := by simp [slco22, Owned.map _ _ _ _ strc_o]
def i183 : TI := ⟨.sl 22, 1, 24, [.slice none 0 0]⟩
theorem t183 : TyOk Tryz.prog 183 i183 := ⟨Tryz.underlying183, by kernel_rfl⟩
theorem z183 : ZOk Tryz.prog 183 i183 := ⟨t183, rfl⟩
theorem c_Grow (n : Nat) (hn : n ≤ 4194304) : Trip Tryz.prog 134 [(false, 1), (false, 1)] ([.v (.slice none 0 0)] ++ [.v (.int .i64 ((n : Int)))]) [(false, 1)] [.sl true 9 1 ([])] [] := by
 refine Trip.of Tryz.func134 (by decide) (c := _) rfl rfl (Nat.le_of_ble_eq_true rfl) rfl (AftOk.nil _) <| .seq <| .rs fun k1 => .as rfl <| .z <| .seq <| .seq <| .rs fun k2 => .mv rfl ?_
 refine .bi rfl <| .z ?_
 refine .cond (t := decide ((n : Int) < 0)) rfl (fun c0 => ?_) (fun c0 => ?_)
 ·have c0 := of_decide_eq_true c0
  exfalso; omega
 ·have c0 := of_decide_eq_false c0
  refine .skip <| .seq <| .seq <| .rs fun k3 => .mv rfl <| .mv rfl <| .g (fun _ τ => ⟨_, .capNil (.no rfl) rfl t22 rfl rfl rfl rfl τ⟩) <| .mv rfl <| .g (fun _ τ => ⟨_, .len (.no rfl) rfl (z := 0) t22 rfl rfl rfl (sz := 1) .nil rfl rfl τ⟩) ?_
  refine .bi (v := .int .i64 (0)) rfl <| .bi rfl <| .as rfl <| .z <| .seq <| .rs fun k4 => .mv rfl <| .bi rfl <| .z ?_
  refine .cond (t := decide ((IntKind.wrap .i64 ((n : Int) - 0)) > 0)) rfl (fun c1 => ?_) (fun c1 => ?_)
  ·have c1 := of_decide_eq_true c1
   refine .rs fun k5 => .mv rfl <| .mv rfl <| .g (fun _ τ => ⟨_, .capNil (.no rfl) rfl t22 rfl rfl rfl rfl τ⟩) <| .g (fun _ τ => ⟨_, .sliceNil (.no rfl) rfl t22 rfl t9 rfl rfl (by exact rfl) (by exact ⟨_, rfl⟩) rfl τ⟩) <| .mv rfl <| .g (fun _ τ => ⟨_, .growNil (.no rfl) rfl (n0 := n) (els := List.map strc (List.replicate n .empty)) t22 rfl t3 rfl z9 rfl rfl rfl rfl rfl rfl (by exact (wrap_le (by omega) (by omega)).trans (by omega)) (by (rw [wrap_le (by omega) (by omega)] at c1; omega)) (by simp [i9]; omega) (by omega) (rep_map _ _ _ rfl) rfl τ⟩) <| .mv rfl <| .g (fun _ τ => ⟨_, .len (.no rfl) rfl (z := 0) t22 rfl rfl rfl (sz := 1) .nil rfl rfl τ⟩) ?_
   refine .g (fun _ τ => ⟨_, .slice (.no rfl) rfl (lv := 0) (hv := 0) (m := k5 + 1 + 1 + 1 + 1 + 1) t22 rfl t9 rfl rfl (.ref _ _ _ _ _ rfl) rfl (by intro _ _ h; cases h; exact ⟨_, .head _⟩) (by exact rfl) (by exact ⟨_, rfl⟩) (Nat.zero_le _) (Nat.zero_le _) rfl rfl τ⟩) <| .as rfl <| .z <| .seq <| .rs fun k6 => .mv rfl <| .as rfl <| .z <| .ret ?_
   exact fin1 (.inr rfl) [] [([22], (k5 + 1 + 1 + 1 + 1 + 1, k5 + 1 + 1 + 1 + 1 + 1, .row 9 1 (List.map strc (List.replicate n .empty))))] (.one rfl .nil) (.cons (.cut0 (.head _)) .nil) rfl rfl (.r rfl)
  ·have c1 := of_decide_eq_false c1
   refine .skip <| .seq <| .rs fun k7 => .mv rfl <| .as rfl <| .z <| .ret ?_
   exact fin0 (.inr rfl) (.one rfl .nil) (.cons (Gives.nil' (by first | rfl | simp_all)) .nil) rfl
theorem c_Concat (l : List (List ByteArray)) (hb : lens l ≤ 4194304 ∧ l.length ≤ 1048576) : Trip Tryz.prog 108 [(false, 1)] ([.sl false 22 1 (List.map slc22 (l))]) [(false, 1)] [.sl true 9 1 (List.map strc (l.flatten))] [] := by
 refine Trip.of Tryz.func108 (by decide) (c := _) rfl rfl (Nat.le_of_ble_eq_true rfl) rfl (AftOk.nil _) <| .sl (t := 0) rfl fun hs1l => .seq <| .rs fun k2 => .as rfl <| .z <| .seq <| .rs fun k3 => .as rfl ?_
 refine .z <| .seq <| .seq <| .rs fun k4 => .mv rfl <| .g (fun _ τ => ⟨_, .len (.no rfl) rfl (z := (l.length : Int)) t183 rfl rfl rfl (.d _ _) (map_len _ _) rfl τ⟩) <| .mv rfl <| .z <| .block ?_
 refine .loop (X := Nat) (fun ζ => .of [(0, .one (.d (.sl false 22 1 (List.map slc22 (l))))), (3, .one (.d (.v (.int .i64 ((lens (l.take ζ) : Int)))))), (9, .one (.d (.sl false 22 1 (List.map slc22 (l))))), (10, .one (.d (.v (.int .i64 ((l.length : Int)))))), (11, .one (.d (.v (.int .i64 ((ζ : Int))))))] []) (fun ζ => ζ ≤ l.length) (fun ζ => l.length - ζ) ?_ ?_
 ·skip
  exact .here 0 (.of (.cons rfl (.cons (svI (show (0) = ((lens (l.take 0) : Int)) by first | rfl | omega | exact wrap_le (by omega) (by omega) | (rw [wrap_le (by omega) (by omega)]; omega))) (.cons rfl (.cons rfl (.cons (svI (show (0) = ((0 : Int)) by first | rfl | omega | exact wrap_le (by omega) (by omega) | (rw [wrap_le (by omega) (by omega)]; omega))) .nil))))) .nil) (show 0 ≤ l.length by omega)
 ·rintro j hI
  have hI : j ≤ l.length := hI
  have hs9 := lens_take l j
  have hs8 := lens_le l (j + 1)
  have hs7 := lens_le l j
  refine .seq <| .rs fun k5 => .bi rfl <| .z <| .seq ?_
  refine .cond (t := decide ((j : Int) < (l.length : Int))) rfl (fun c0 => ?_) (fun c0 => ?_)
  ·have c0 := of_decide_eq_true c0
   refine .skip <| .seq <| .block <| .seq <| .rs fun k6 => .g (fun _ τ => ⟨_, .indexAddr (.no rfl) rfl (j) t183 rfl t22 rfl rfl rfl (.d _ _) rfl rfl rfl (map_get (by omega)) rfl rfl τ⟩) <| .ld t22 rfl (.d _) rfl <| .as rfl <| .z ?_
   refine .seq <| .rs fun k7 => .mv rfl <| .mv rfl <| .g (fun _ τ => ⟨_, .len (.no rfl) rfl (z := ((l.getD j default).length : Int)) t22 rfl rfl rfl (.d _ _) (map_len _ _) rfl τ⟩) <| .bi rfl <| .as rfl <| .z <| .seq ?_
   refine .rs fun k8 => .mv rfl <| .bi rfl <| .z ?_
   refine .cond (t := decide ((IntKind.wrap .i64 ((lens (l.take j) : Int) + ((l.getD j default).length : Int))) < 0)) rfl (fun c1 => ?_) (fun c1 => ?_)
   ·have c1 := of_decide_eq_true c1
    exfalso; (rw [wrap_le (by omega) (by omega)] at c1; omega)
   ·have c1 := of_decide_eq_false c1
    refine .skip <| .rs fun k9 => .bi rfl <| .mv rfl <| .z ?_
    exact .here (j + 1) (.of (.cons rfl (.cons (svI (show (IntKind.wrap .i64 ((lens (l.take j) : Int) + ((l.getD j default).length : Int))) = ((lens (l.take (j + 1)) : Int)) by first | rfl | omega | exact wrap_le (by omega) (by omega) | (rw [wrap_le (by omega) (by omega)]; omega))) (.cons rfl (.cons rfl (.cons (svI (show (IntKind.wrap .i64 ((j : Int) + 1)) = (((j + 1) : Int)) by first | rfl | omega | exact wrap_le (by omega) (by omega) | (rw [wrap_le (by omega) (by omega)]; omega))) .nil))))) .nil) ⟨(show (j + 1) ≤ l.length by omega), (show l.length - (j + 1) < l.length - j by omega)⟩
  ·have c0 := of_decide_eq_false c0
   refine .exit <| .seq <| .rs fun k10 => .mv rfl <| .c0 (c_Grow (lens (l.take j)) (by omega)) rfl (.dd (.dd .nil)) (.own [24, 0] .nil) rfl <| .as rfl <| .z <| .seq <| .seq ?_
   refine .rs fun k11 => .mv rfl <| .g (fun _ τ => ⟨_, .len (.no rfl) rfl (z := (l.length : Int)) t183 rfl rfl rfl (.d _ _) (map_len _ _) rfl τ⟩) <| .mv rfl <| .z <| .block ?_
   refine .loop (X := Nat × Nat × Nat) (fun ζ => .of [(6, .one (.ref [24, 0] (ζ.2.1))), (25, .one (.d (.sl false 22 1 (List.map slc22 (l))))), (26, .one (.d (.v (.int .i64 ((l.length : Int)))))), (27, .one (.d (.v (.int .i64 ((ζ.1 : Int))))))] [([24, 0], (ζ.2.1, ζ.2.2, .row 9 1 (List.map strc ((l.take ζ.1).flatten))))]) (fun ζ => ζ.1 ≤ l.length) (fun ζ => l.length - ζ.1) ?_ ?_
   ·skip
    exact .here (0, (k10 + 1), (k10 + 1)) (.of (.cons (by show SV.one (.ref [24, 0] (k10 + 1)) = SV.one (.ref [24, 0] ((k10 + 1))); first | rfl | simp_all) (.cons rfl (.cons rfl (.cons (svI (show (0) = ((0 : Int)) by first | rfl | omega | exact wrap_le (by omega) (by omega) | (rw [wrap_le (by omega) (by omega)]; omega))) .nil)))) (.cons (rowE (show [] = List.map strc ((l.take 0).flatten) by first | (simp; done) | exact congrArg _ (take_flatten _ _))) .nil)) (show 0 ≤ l.length by omega)
   ·rintro ⟨i, q12, q13⟩ hI
    have hI : i ≤ l.length := hI
    have hs9 := lens_take l i
    have hs8 := lens_le l (i + 1)
    have hs7 := lens_le l i
    dsimp only
    refine .seq <| .rs fun k14 => .bi rfl <| .z <| .seq ?_
    refine .cond (t := decide ((i : Int) < (l.length : Int))) rfl (fun c2 => ?_) (fun c2 => ?_)
    ·have c2 := of_decide_eq_true c2
     refine .skip <| .seq <| .block <| .seq <| .rs fun k15 => .g (fun _ τ => ⟨_, .indexAddr (.no rfl) rfl (i) t183 rfl t22 rfl rfl rfl (.d _ _) rfl rfl rfl (map_get (by omega)) rfl rfl τ⟩) <| .ld t22 rfl (.d _) rfl <| .as rfl <| .z ?_
     refine .rs fun k16 => .mv rfl <| .mv rfl <| .g (fun _ τ => ⟨_, .append (.no rfl) rfl (l3 := List.map strc ((l.take i).flatten ++ l.getD i default)) t22 rfl z9 rfl rfl rfl rfl rfl rfl rfl rfl (.ref _ _ _ _ rfl) (.ro _ _) rfl (by simp only [List.length_map, flatten_lens, i9]; omega) (map_app _ _ _) rfl rfl τ⟩) <| .as rfl <| .z <| .rs fun k17 => .bi rfl <| .mv rfl ?_
     refine .z ?_
     exact .here ((i + 1), (k16 + 1 + 1), (k16 + 1 + 1)) (.of (.cons (by show SV.one (.ref [24, 0] (k16 + 1 + 1)) = SV.one (.ref [24, 0] ((k16 + 1 + 1))); first | rfl | simp_all) (.cons rfl (.cons rfl (.cons (svI (show (IntKind.wrap .i64 ((i : Int) + 1)) = (((i + 1) : Int)) by first | rfl | omega | exact wrap_le (by omega) (by omega) | (rw [wrap_le (by omega) (by omega)]; omega))) .nil)))) (.cons (rowE (show List.map strc ((l.take i).flatten ++ l.getD i default) = List.map strc ((l.take (i + 1)).flatten) by first | (simp; done) | exact congrArg _ (take_flatten _ _))) .nil)) ⟨(show (i + 1) ≤ l.length by omega), (show l.length - (i + 1) < l.length - i by omega)⟩
    ·have c2 := of_decide_eq_false c2
     refine .exit <| .seq <| .rs fun k18 => .mv rfl <| .as rfl <| .z <| .ret ?_
     have e19 : ((l.take i).flatten) = (l.flatten) := by (rw [List.take_of_length_le (by omega)])
     exact fin1 (.inr rfl) [] [([24, 0], (q12, q13, .row 9 1 (List.map strc (l.flatten))))] (.one rfl .nil) (.cons (.ref (.head _)) .nil) rfl rfl (.cons (rowE (congrArg (List.map strc) e19)) .nil)
theorem c_names (d : Decl) (hb : d.vars.length ≤ 1048576 ∧ d.flags.length ≤ 1048576 ∧ d.arrays.length ≤ 1048576) : Trip Tryz.prog 78 [(true, 3)] (Decl.c34 d) [(false, 1)] [.sl true 9 1 (List.map strc (Decl.names d))] [] := by
 refine Trip.of Tryz.func78 (by decide) (c := _) rfl rfl (Nat.le_of_ble_eq_true rfl) rfl (AftOk.nil _) <| .sla (t := 0) 0 rfl rfl fun hs1l => .sla (t := 0) 1 rfl rfl fun hs2l => .sla (t := 0) 2 rfl rfl fun hs3l => .seq <| .rs fun k4 => .g (fun _ τ => ⟨_, .box (.no rfl) rfl rfl rfl rfl rfl τ⟩) <| .as rfl <| .z ?_
 refine .seq <| .rs fun k5 => .fp t34 t22 rfl <| .ld t22 rfl (.ptr _ _ _ _ _ rfl) rfl <| .fp t34 t22 rfl <| .ld t22 rfl (.ptr _ _ _ _ _ rfl) rfl <| .g (fun _ τ => ⟨_, .buildSlice (.no rfl) rfl (els := [[.sl false 9 1 (List.map strc (d.vars))], [.sl false 9 1 (List.map strc (d.flags))]]) t183 rfl z22 rfl rfl rfl rfl rfl rfl rfl rfl (by simp [i22]) (.cons _ _ _ _ _ _ (.d _) (.cons _ _ _ _ _ _ (.d _) .nil)) rfl rfl rfl τ⟩) ?_
 refine .g (fun _ τ => ⟨_, .call (.no rfl) rfl [[10]] [([10], (k5 + 1 + 1 + 1 + 1, k5 + 1 + 1 + 1 + 1, .row 22 1 ([[.sl false 9 1 (List.map strc (d.vars))], [.sl false 9 1 (List.map strc (d.flags))]])))] (c_Concat [d.vars, d.flags] (by (simp [lens]; omega))) rfl rfl rfl rfl rfl (.cons (Reads.ref (Frz.of_erase (erase_slo true 22 1 slc22 slc22 ([d.vars, d.flags]) slc22_e)) (.head _) (.head _)).gives .nil) rfl rfl (fun _ => (ownCons (Owned.map _ _ _ _ strc_o) ownNil)) (.own [11, 0] .nil) (.nil) rfl rfl rfl (AllH.get (.r rfl)) rfl rfl rfl τ⟩) <| .as rfl <| .z <| .seq <| .seq <| .rs fun k6 => .fp t34 t32 rfl <| .ld t32 rfl (.ptr _ _ _ _ _ rfl) rfl <| .g (fun _ τ => ⟨_, .len (.no rfl) rfl (z := (d.arrays.length : Int)) t32 rfl rfl rfl (.d _ _) (map_len _ _) rfl τ⟩) ?_
 refine .mv rfl <| .z <| .block ?_
 refine .loop (X := Nat × Nat × Nat) (fun ζ => .of [(3, .one (.ref [11, 0] (ζ.2.1))), (13, .one (.d (.sl false 115 2 (List.map Arr.c (d.arrays))))), (14, .one (.d (.v (.int .i64 ((d.arrays.length : Int)))))), (15, .one (.d (.v (.int .i64 ((ζ.1 : Int))))))] [([11, 0], (ζ.2.1, ζ.2.2, .row 9 1 (List.map strc (d.vars ++ d.flags ++ (d.arrays.take ζ.1).map Arr.name))))]) (fun ζ => ζ.1 ≤ d.arrays.length) (fun ζ => d.arrays.length - ζ.1) ?_ ?_
 ·skip
  exact .here (0, (k5 + 1 + 1 + 1 + 1 + 1), (k5 + 1 + 1 + 1 + 1 + 1)) (.of (.cons (by show SV.one (.ref [11, 0] (k5 + 1 + 1 + 1 + 1 + 1)) = SV.one (.ref [11, 0] ((k5 + 1 + 1 + 1 + 1 + 1))); first | rfl | simp_all) (.cons rfl (.cons rfl (.cons (svI (show (0) = ((0 : Int)) by first | rfl | omega | exact wrap_le (by omega) (by omega) | (rw [wrap_le (by omega) (by omega)]; omega))) .nil)))) (.cons (rowE (show List.map strc ([d.vars, d.flags].flatten) = List.map strc (d.vars ++ d.flags ++ (d.arrays.take 0).map Arr.name) by first | (simp; done) | (rw [List.append_assoc (d.vars ++ d.flags), take_step (f := Arr.name) (by omega)]))) .nil)) (show 0 ≤ d.arrays.length by omega)
 ·rintro ⟨j, q7, q8⟩ hI
  have hI : j ≤ d.arrays.length := hI
  dsimp only
  refine .seq <| .rs fun k9 => .bi rfl <| .z <| .seq ?_
  refine .cond (t := decide ((j : Int) < (d.arrays.length : Int))) rfl (fun c0 => ?_) (fun c0 => ?_)
  ·have c0 := of_decide_eq_true c0
   refine .skip <| .seq <| .block <| .seq <| .rs fun k10 => .g (fun _ τ => ⟨_, .indexAddr (.no rfl) rfl (j) t32 rfl t115 rfl rfl rfl (.d _ _) rfl rfl rfl (map_get (by omega)) rfl rfl τ⟩) <| .lda t115 rfl (.d _) rfl <| .g (fun _ τ => ⟨_, .alloc (.no rfl) rfl z115 rfl rfl rfl τ⟩) <| .g (fun _ τ => ⟨_, .store (.no rfl) rfl t115 rfl rfl rfl rfl rfl rfl rfl rfl rfl τ⟩) ?_
   refine .z <| .rs fun k11 => .mv rfl <| .fp t115 t9 rfl <| .ld t9 rfl (.ptr _ _ _ _ _ rfl) rfl <| .g (fun _ τ => ⟨_, .buildSlice (.no rfl) rfl (els := [[.v (.string ((d.arrays.getD j default).name))]]) t22 rfl z9 rfl rfl rfl rfl rfl rfl rfl rfl (by simp [i9]) (.cons _ _ _ _ _ _ (.d _) .nil) rfl rfl rfl τ⟩) <| .g (fun _ τ => ⟨_, .append (.no rfl) rfl (l3 := List.map strc (d.vars ++ d.flags ++ (d.arrays.take j).map Arr.name ++ [(d.arrays.getD j default).name])) t22 rfl z9 rfl rfl rfl rfl rfl rfl rfl rfl (.ref _ _ _ _ rfl) (.take _ _ _ _ _ rfl) rfl (by simp [i9]; omega) (map_snoc _ _ _) rfl rfl τ⟩) <| .as rfl <| .z ?_
   refine .rs fun k12 => .bi rfl <| .mv rfl <| .z ?_
   exact .here ((j + 1), (k11 + 1 + 1 + 1 + 1), (k11 + 1 + 1 + 1 + 1)) (.of (.cons (by show SV.one (.ref [11, 0] (k11 + 1 + 1 + 1 + 1)) = SV.one (.ref [11, 0] ((k11 + 1 + 1 + 1 + 1))); first | rfl | simp_all) (.cons rfl (.cons rfl (.cons (svI (show (IntKind.wrap .i64 ((j : Int) + 1)) = (((j + 1) : Int)) by first | rfl | omega | exact wrap_le (by omega) (by omega) | (rw [wrap_le (by omega) (by omega)]; omega))) .nil)))) (.cons (rowE (show List.map strc (d.vars ++ d.flags ++ (d.arrays.take j).map Arr.name ++ [(d.arrays.getD j default).name]) = List.map strc (d.vars ++ d.flags ++ (d.arrays.take (j + 1)).map Arr.name) by first | (simp; done) | (rw [List.append_assoc (d.vars ++ d.flags), take_step (f := Arr.name) (by omega)]))) .nil)) ⟨(show (j + 1) ≤ d.arrays.length by omega), (show d.arrays.length - (j + 1) < d.arrays.length - j by omega)⟩
  ·have c0 := of_decide_eq_false c0
   refine .exit <| .seq <| .rs fun k13 => .mv rfl <| .as rfl <| .z <| .ret ?_
   have e14 : (d.vars ++ d.flags ++ (d.arrays.take j).map Arr.name) = (Decl.names d) := by (simp only [Decl.names]; rw [List.take_of_length_le (by omega)])
   exact fin1 (.inr rfl) [] [([11, 0], (q7, q8, .row 9 1 (List.map strc (Decl.names d))))] (.one rfl .nil) (.cons (.ref (.head _)) .nil) rfl rfl (.cons (rowE (congrArg (List.map strc) e14)) .nil)
end Go.Proofs

namespace Go.Proofs
open Go Go.Proofs Go.Ev

def i128 : TI := ⟨.fn, 1, 8, [.nilFunc]⟩
theorem t128 : TyOk Tryz.prog 128 i128 := ⟨⟨_, _, _, Tryz.underlying128⟩, by kernel_rfl⟩
theorem z128 : ZOk Tryz.prog 128 i128 := ⟨t128, rfl⟩
theorem c_IndexFuncA (l : List Arr) (F_p : FuncId) (first_p : List (Bool × List D)) (caps_p : List D) (p : Arr → Bool) (h_p : ∀ (x0 : Arr), FnTrip Tryz.prog F_p first_p caps_p [(true, 2)] (Arr.c x0) [(false, 1)] [.v (.bool (p x0))]) : Trip Tryz.prog 136 [(false, 1), (false, 1)] ([.sl false 115 2 (List.map Arr.c (l))] ++ [.fn F_p first_p caps_p]) [(false, 1)] [.v (.int .i64 (idx p l))] [] := by
 refine Trip.of Tryz.func136 (by decide) (c := _) rfl rfl (Nat.le_of_ble_eq_true rfl) rfl (AftOk.nil _) <| .sl (t := 0) rfl fun hs1l => .seq <| .rs fun k2 => .as rfl <| .z <| .seq <| .seq <| .rs fun k3 => ?_
 refine .mv rfl <| .g (fun _ τ => ⟨_, .len (.no rfl) rfl (z := (l.length : Int)) t32 rfl rfl rfl (.d _ _) (map_len _ _) rfl τ⟩) <| .mv rfl <| .z <| .block ?_
 refine .loop (X := Nat) (fun ζ => .of [(0, .one (.d (.sl false 115 2 (List.map Arr.c (l))))), (1, .one (.d (.fn F_p first_p caps_p))), (7, .one (.d (.v (.int .i64 ((l.length : Int)))))), (8, .one (.d (.v (.int .i64 ((ζ : Int))))))] []) (fun ζ => ζ ≤ l.length ∧ allTo ζ (fun i => !p (l.getD i default)) = true) (fun ζ => l.length - ζ) ?_ ?_
 ·skip
  exact .here 0 (.of (.cons rfl (.cons rfl (.cons rfl (.cons (svI (show (0) = ((0 : Int)) by first | rfl | omega | exact wrap_le (by omega) (by omega) | (rw [wrap_le (by omega) (by omega)]; omega))) .nil)))) .nil) (show 0 ≤ l.length ∧ allTo 0 (fun i => !p (l.getD i default)) = true by exact ⟨by omega, rfl⟩)
 ·rintro j hI
  have hI : j ≤ l.length ∧ allTo j (fun i => !p (l.getD i default)) = true := hI
  refine .seq <| .rs fun k4 => .bi rfl <| .z <| .seq ?_
  refine .cond (t := decide ((j : Int) < (l.length : Int))) rfl (fun c0 => ?_) (fun c0 => ?_)
  ·have c0 := of_decide_eq_true c0
   refine .skip <| .seq <| .block <| .seq <| .rs fun k5 => .mv rfl <| .as rfl <| .z <| .seq ?_
   refine .rs fun k6 => .mv rfl <| .mv rfl <| .mv rfl <| .g (fun _ τ => ⟨_, .indexAddr (.no rfl) rfl (j) t32 rfl t115 rfl rfl rfl (.d _ _) rfl rfl rfl (map_get (by omega)) rfl rfl τ⟩) <| .lda t115 rfl (.d _) rfl <| .g (fun _ τ => ⟨_, .callF (.no rfl) rfl (ds := [.v (.string ((l.getD j default).name)), .v (.int .i64 ((l.getD j default).size))]) (h_p (l.getD j default)) rfl rfl rfl rfl (.own [16, 0] .nil) rfl rfl rfl rfl rfl rfl τ⟩) <| .z ?_
   refine .cond (t := p (l.getD j default)) rfl (fun c1 => ?_) (fun c1 => ?_)
   ·have c1 := c1
    refine .seq <| .rs fun k7 => .mv rfl <| .as rfl <| .z <| .ret ?_
    exact fin0 (.inr rfl) (.one (svI (show ((j : Int)) = (idx p l) by exact (idx_found (j := j) (by omega) hI.2 (by simpa using c1)).symm)) .nil) (.dd .nil) rfl
   ·have c1 := c1
    refine .skip <| .rs fun k9 => .bi rfl <| .mv rfl <| .z ?_
    exact .here (j + 1) (.of (.cons rfl (.cons rfl (.cons rfl (.cons (svI (show (IntKind.wrap .i64 ((j : Int) + 1)) = (((j + 1) : Int)) by first | rfl | omega | exact wrap_le (by omega) (by omega) | (rw [wrap_le (by omega) (by omega)]; omega))) .nil)))) .nil) ⟨(show (j + 1) ≤ l.length ∧ allTo (j + 1) (fun i => !p (l.getD i default)) = true by exact ⟨by omega, allTo_step hI.2 (by simpa using c1)⟩), (show l.length - (j + 1) < l.length - j by omega)⟩
  ·have c0 := of_decide_eq_false c0
   refine .exit <| .seq <| .rs fun k10 => .as rfl <| .z <| .ret ?_
   exact fin0 (.inr rfl) (.one (svI (show (-1) = (idx p l) by exact (idx_none (by omega) hI.2).symm)) .nil) (.dd .nil) rfl
theorem c_ContainsFuncA (l : List Arr) (F_p : FuncId) (first_p : List (Bool × List D)) (caps_p : List D) (p : Arr → Bool) (h_p : ∀ (x0 : Arr), FnTrip Tryz.prog F_p first_p caps_p [(true, 2)] (Arr.c x0) [(false, 1)] [.v (.bool (p x0))]) : Trip Tryz.prog 112 [(false, 1), (false, 1)] ([.sl false 115 2 (List.map Arr.c (l))] ++ [.fn F_p first_p caps_p]) [(false, 1)] [.v (.bool (l.any p))] [] := by
 refine Trip.of Tryz.func112 (by decide) (c := _) rfl rfl (Nat.le_of_ble_eq_true rfl) rfl (AftOk.nil _) <| .sl (t := 0) rfl fun hs1l => .seq <| .rs fun k2 => .as rfl <| .z <| .seq <| .rs fun k3 => .mv rfl ?_
 refine .mv rfl <| .c0 (c_IndexFuncA l F_p first_p caps_p p h_p) rfl (.dd (.dd .nil)) (.own [7, 0] .nil) rfl <| .bi rfl <| .as rfl <| .z <| .ret ?_
 exact fin0 (.inr rfl) (.one (svB (show (decide ((idx p l) ≥ 0)) = (l.any p) by exact idx_any _ _)) .nil) (.dd .nil) rfl
theorem c_areAll1A (x : Arr) (F_p : FuncId) (first_p : List (Bool × List D)) (caps_p : List D) (p : Arr → Bool) (h_p : ∀ (x0 : Arr), FnTrip Tryz.prog F_p first_p caps_p [(true, 2)] (Arr.c x0) [(false, 1)] [.v (.bool (p x0))]) : Trip Tryz.prog 113 [(true, 2), (false, 1)] (Arr.c x ++ [.pt false [.fn F_p first_p caps_p]]) [(false, 1)] [.v (.bool (!p x))] [] := by
 refine Trip.of Tryz.func113 (by decide) (c := _) rfl rfl (Nat.le_of_ble_eq_true rfl) rfl (AftOk.nil _) <| .seq <| .rs fun k1 => .g (fun _ τ => ⟨_, .box (.no rfl) rfl rfl rfl rfl rfl τ⟩) <| .as rfl <| .z <| .seq <| .rs fun k2 => .ld t128 rfl (.d _) rfl ?_
 refine .lda t115 rfl (.ptr _ _ _ _ _ rfl) rfl <| .g (fun _ τ => ⟨_, .callF (.no rfl) rfl (ds := [.v (.string (x.name)), .v (.int .i64 (x.size))]) (h_p x) rfl rfl rfl rfl (.own [6, 0] .nil) rfl rfl rfl rfl rfl rfl τ⟩) <| .un rfl <| .as rfl <| .z <| .ret ?_
 exact fin0 (.inr rfl) (.one (svB (show (!(p x)) = (!p x) by rfl)) .nil) (.dd .nil) rfl
theorem c_areAllA (l : List Arr) (F_p : FuncId) (first_p : List (Bool × List D)) (caps_p : List D) (p : Arr → Bool) (h_p : ∀ (x0 : Arr), FnTrip Tryz.prog F_p first_p caps_p [(true, 2)] (Arr.c x0) [(false, 1)] [.v (.bool (p x0))]) : Trip Tryz.prog 83 [(false, 1), (false, 1)] ([.sl false 115 2 (List.map Arr.c (l))] ++ [.fn F_p first_p caps_p]) [(false, 1)] [.v (.bool (l.all p))] [] := by
 refine Trip.of Tryz.func83 (by decide) (c := _) rfl rfl (Nat.le_of_ble_eq_true rfl) rfl (AftOk.nil _) <| .sl (t := 0) rfl fun hs1l => .seq <| .rs fun k2 => .g (fun _ τ => ⟨_, .box (.no rfl) rfl rfl rfl rfl rfl τ⟩) <| .as rfl <| .z <| .seq <| .rs fun k3 => ?_
 refine .mv rfl <| .g (fun _ τ => ⟨_, .makeFunc (.no rfl) rfl rfl rfl rfl rfl τ⟩) <| .g (fun _ τ => ⟨_, .call (.no rfl) rfl [[3]] [([3], (k2, k2, .box [.d (.fn F_p first_p caps_p)]))] (c_ContainsFuncA l 113 [] [.pt false [.fn F_p first_p caps_p]] (fun x0 => !p x0) (fun x0 => c_areAll1A x0 F_p first_p caps_p p h_p)) rfl rfl rfl rfl rfl (.dd (.cons (Reads.clo0 (.cons (Reads.ptr0 (.head _) (.head _) (.cons (Reads.d _) .nil)) .nil)).gives .nil)) rfl rfl (fun _ => (ownCons (Owned.v _) ownNil)) (.own [7, 0] .nil) (.nil) rfl rfl rfl (AllH.get (.r rfl)) rfl rfl rfl τ⟩) <| .un rfl <| .as rfl <| .z <| .ret ?_
 exact fin0 (.inr rfl) (.one (svB (show (!(l.any (fun x0 => !p x0))) = (l.all p) by exact not_any _ _)) .nil) (.dd .nil) rfl
theorem c_isLetter (c : Int) : Trip Tryz.prog 109 [(false, 1)] ([.v (.int .u8 (c))]) [(false, 1)] [.v (.bool (decide (c ≥ 97) && decide (c ≤ 122)))] [] := by
 refine Trip.of Tryz.func109 (by decide) (c := _) rfl rfl (Nat.le_of_ble_eq_true rfl) rfl (AftOk.nil _) <| .seq <| .rs fun k1 => .as rfl <| .z <| .seq ?_
 refine .reg (X := Unit) (fun ζ => .of [(2, .one (.d (.v (.bool ((decide (c ≥ 97) && decide (c ≤ 122)))))))] []) [⟨[0], some 3, [], []⟩, ⟨[3], some 4, [], []⟩, ⟨[4], some 5, [], []⟩, ⟨[5, 0], some 6, [], []⟩, ⟨[5, 6], some 7, [], []⟩, ⟨[5, 7], some 8, [], []⟩, ⟨[8], some 2, [], []⟩] (fun k2 => ?_) ?_
 ·skip
  refine .move (.no rfl) rfl rfl rfl rfl <| .bin (.no rfl) rfl rfl rfl rfl rfl rfl <| .moveB (.no rfl) rfl rfl rfl rfl fun b3 g1_2 => ?_
  cases b3
  ·skip
   refine .off rfl rfl rfl rfl rfl rfl rfl <| .off rfl rfl rfl rfl rfl rfl rfl <| .pick (.no rfl) rfl rfl rfl rfl rfl <| .assign (.no rfl) rfl rfl rfl rfl ?_
   exact .fin () (.of (.cons (svB (show (false) = ((decide (c ≥ 97) && decide (c ≤ 122))) by first | (simp only [g1_2, Bool.true_or, Bool.false_or, Bool.true_and, Bool.false_and, Bool.not_true, Bool.not_false]; done) | (simp [g1_2]; done) | (exfalso; simp_all; done))) .nil) .nil)
  ·skip
   refine .move (.on rfl rfl rfl rfl rfl) rfl rfl rfl rfl <| .bin (.on rfl rfl rfl rfl rfl) rfl rfl rfl rfl rfl rfl <| .pick (.no rfl) rfl rfl rfl rfl rfl <| .assign (.no rfl) rfl rfl rfl rfl ?_
   exact .fin () (.of (.cons (svB (show (decide (c ≤ 122)) = ((decide (c ≥ 97) && decide (c ≤ 122))) by first | (simp only [g1_2, Bool.true_or, Bool.false_or, Bool.true_and, Bool.false_and, Bool.not_true, Bool.not_false]; done) | (simp [g1_2]; done) | (exfalso; simp_all; done))) .nil) .nil)
 intro _
 refine .ret ?_
 exact fin0 (.inr rfl) (.one (svB (show ((decide (c ≥ 97) && decide (c ≤ 122))) = (decide (c ≥ 97) && decide (c ≤ 122)) by rfl)) .nil) (.dd .nil) rfl
theorem c_within (n : Int) (lo : Int) (hi : Int) : Trip Tryz.prog 82 [(false, 1), (false, 1), (false, 1)] ([.v (.int .i64 (n))] ++ [.v (.int .i64 (lo))] ++ [.v (.int .i64 (hi))]) [(false, 1)] [.v (.bool (inR n lo hi))] [] := by
 refine Trip.of Tryz.func82 (by decide) (c := _) rfl rfl (Nat.le_of_ble_eq_true rfl) rfl (AftOk.nil _) <| .seq <| .rs fun k1 => .as rfl <| .z <| .seq ?_
 refine .reg (X := Unit) (fun ζ => .of [(6, .one (.d (.v (.bool ((decide (lo ≤ n) && decide (n ≤ hi)))))))] []) [⟨[1], some 7, [], []⟩, ⟨[0], some 8, [], []⟩, ⟨[7, 8], some 9, [], []⟩, ⟨[9], some 10, [], []⟩, ⟨[10, 0], some 11, [], []⟩, ⟨[10, 2], some 12, [], []⟩, ⟨[10, 11, 12], some 13, [], []⟩, ⟨[10, 13], some 14, [], []⟩, ⟨[14], some 6, [], []⟩] (fun k2 => ?_) ?_
 ·skip
  refine .move (.no rfl) rfl rfl rfl rfl <| .move (.no rfl) rfl rfl rfl rfl <| .bin (.no rfl) rfl rfl rfl rfl rfl rfl <| .moveB (.no rfl) rfl rfl rfl rfl fun b3 g1_3 => ?_
  cases b3
  ·skip
   refine .off rfl rfl rfl rfl rfl rfl rfl <| .off rfl rfl rfl rfl rfl rfl rfl <| .off rfl rfl rfl rfl rfl rfl rfl <| .pick (.no rfl) rfl rfl rfl rfl rfl <| .assign (.no rfl) rfl rfl rfl rfl ?_
   exact .fin () (.of (.cons (svB (show (false) = ((decide (lo ≤ n) && decide (n ≤ hi))) by first | (simp only [g1_3, Bool.true_or, Bool.false_or, Bool.true_and, Bool.false_and, Bool.not_true, Bool.not_false]; done) | (simp [g1_3]; done) | (exfalso; simp_all; done))) .nil) .nil)
  ·skip
   refine .move (.on rfl rfl rfl rfl rfl) rfl rfl rfl rfl <| .move (.on rfl rfl rfl rfl rfl) rfl rfl rfl rfl <| .bin (.on rfl rfl rfl rfl rfl) rfl rfl rfl rfl rfl rfl <| .pick (.no rfl) rfl rfl rfl rfl rfl <| .assign (.no rfl) rfl rfl rfl rfl ?_
   exact .fin () (.of (.cons (svB (show (decide (n ≤ hi)) = ((decide (lo ≤ n) && decide (n ≤ hi))) by first | (simp only [g1_3, Bool.true_or, Bool.false_or, Bool.true_and, Bool.false_and, Bool.not_true, Bool.not_false]; done) | (simp [g1_3]; done) | (exfalso; simp_all; done))) .nil) .nil)
 intro _
 refine .ret ?_
 exact fin0 (.inr rfl) (.one (svB (show ((decide (lo ≤ n) && decide (n ≤ hi))) = (inR n lo hi) by rfl)) .nil) (.dd .nil) rfl
theorem c_IndexS (l : List ByteArray) (s : ByteArray) : Trip Tryz.prog 111 [(false, 1), (false, 1)] ([.sl false 9 1 (List.map strc (l))] ++ [.v (.string (s))]) [(false, 1)] [.v (.int .i64 (idx (fun x => strEq s x) l))] [] := by
 refine Trip.of Tryz.func111 (by decide) (c := _) rfl rfl (Nat.le_of_ble_eq_true rfl) rfl (AftOk.nil _) <| .sl (t := 0) rfl fun hs1l => .seq <| .rs fun k2 => .as rfl <| .z <| .seq <| .seq <| .rs fun k3 => ?_
 refine .mv rfl <| .g (fun _ τ => ⟨_, .len (.no rfl) rfl (z := (l.length : Int)) t22 rfl rfl rfl (.d _ _) (map_len _ _) rfl τ⟩) <| .mv rfl <| .z <| .block ?_
 refine .loop (X := Nat) (fun ζ => .of [(0, .one (.d (.sl false 9 1 (List.map strc (l))))), (1, .one (.d (.v (.string (s))))), (7, .one (.d (.v (.int .i64 ((l.length : Int)))))), (8, .one (.d (.v (.int .i64 ((ζ : Int))))))] []) (fun ζ => ζ ≤ l.length ∧ allTo ζ (fun i => !strEq s (l.getD i default)) = true) (fun ζ => l.length - ζ) ?_ ?_
 ·skip
  exact .here 0 (.of (.cons rfl (.cons rfl (.cons rfl (.cons (svI (show (0) = ((0 : Int)) by first | rfl | omega | exact wrap_le (by omega) (by omega) | (rw [wrap_le (by omega) (by omega)]; omega))) .nil)))) .nil) (show 0 ≤ l.length ∧ allTo 0 (fun i => !strEq s (l.getD i default)) = true by exact ⟨by omega, rfl⟩)
 ·rintro j hI
  have hI : j ≤ l.length ∧ allTo j (fun i => !strEq s (l.getD i default)) = true := hI
  refine .seq <| .rs fun k4 => .bi rfl <| .z <| .seq ?_
  refine .cond (t := decide ((j : Int) < (l.length : Int))) rfl (fun c0 => ?_) (fun c0 => ?_)
  ·have c0 := of_decide_eq_true c0
   refine .skip <| .seq <| .block <| .seq <| .rs fun k5 => .mv rfl <| .as rfl <| .z <| .seq ?_
   refine .rs fun k6 => .mv rfl <| .mv rfl <| .mv rfl <| .g (fun _ τ => ⟨_, .indexAddr (.no rfl) rfl (j) t22 rfl t9 rfl rfl rfl (.d _ _) rfl rfl rfl (map_get (by omega)) rfl rfl τ⟩) <| .ld t9 rfl (.d _) rfl <| .bi rfl <| .z ?_
   refine .cond (t := s.toList == (l.getD j default).toList) rfl (fun c1 => ?_) (fun c1 => ?_)
   ·have c1 := c1
    refine .seq <| .rs fun k7 => .mv rfl <| .as rfl <| .z <| .ret ?_
    exact fin0 (.inr rfl) (.one (svI (show ((j : Int)) = (idx (fun x => strEq s x) l) by exact (idx_found (p := fun x => strEq s x) (by omega) hI.2 c1).symm)) .nil) (.dd .nil) rfl
   ·have c1 := c1
    refine .skip <| .rs fun k9 => .bi rfl <| .mv rfl <| .z ?_
    exact .here (j + 1) (.of (.cons rfl (.cons rfl (.cons rfl (.cons (svI (show (IntKind.wrap .i64 ((j : Int) + 1)) = (((j + 1) : Int)) by first | rfl | omega | exact wrap_le (by omega) (by omega) | (rw [wrap_le (by omega) (by omega)]; omega))) .nil)))) .nil) ⟨(show (j + 1) ≤ l.length ∧ allTo (j + 1) (fun i => !strEq s (l.getD i default)) = true by exact ⟨by omega, allTo_step hI.2 (by rw [show strEq s (l.getD j default) = false from c1]; rfl)⟩), (show l.length - (j + 1) < l.length - j by omega)⟩
  ·have c0 := of_decide_eq_false c0
   refine .exit <| .seq <| .rs fun k10 => .as rfl <| .z <| .ret ?_
   exact fin0 (.inr rfl) (.one (svI (show (-1) = (idx (fun x => strEq s x) l) by exact (idx_none (p := fun x => strEq s x) (by omega) hI.2).symm)) .nil) (.dd .nil) rfl
theorem c_ContainsS (l : List ByteArray) (s : ByteArray) : Trip Tryz.prog 80 [(false, 1), (false, 1)] ([.sl false 9 1 (List.map strc (l))] ++ [.v (.string (s))]) [(false, 1)] [.v (.bool (l.any fun x => strEq s x))] [] := by
 refine Trip.of Tryz.func80 (by decide) (c := _) rfl rfl (Nat.le_of_ble_eq_true rfl) rfl (AftOk.nil _) <| .sl (t := 0) rfl fun hs1l => .seq <| .rs fun k2 => .as rfl <| .z <| .seq <| .rs fun k3 => .mv rfl ?_
 refine .mv rfl <| .c0 (c_IndexS l s) rfl (.dd (.dd .nil)) (.own [7, 0] .nil) rfl <| .bi rfl <| .as rfl <| .z <| .ret ?_
 exact fin0 (.inr rfl) (.one (svB (show (decide ((idx (fun x => strEq s x) l) ≥ 0)) = (l.any fun x => strEq s x) by exact idx_any _ _)) .nil) (.dd .nil) rfl
theorem asciiTab {W : World} {Z : Nat → Prop} (h : Laid W Z) : ∀ c : Nat, c < 256 → W.cell? ⟨0, c, none⟩ = some (.int .u8 (if Lib.isSp (UInt8.ofNat c) then 1 else 0)) := fun c hc => by
  obtain ⟨_, h2⟩ := h _ (List.mem_singleton.2 rfl)
  obtain ⟨v, h3, h4⟩ := h2 c (.v (.int .u8 (if Lib.isSp (UInt8.ofNat c) then 1 else 0))) (by simp [hc])
  cases h4; exact h3
def words : ByteArray := (⟨#[118, 97, 114, 32, 102, 108, 97, 103, 32, 97, 114, 114, 97, 121, 32, 105, 102, 32, 102, 111, 114, 107, 32, 101, 108, 115, 101, 32, 101, 110, 100, 32, 119, 104, 105, 108, 101, 32, 117, 110, 114, 111, 108, 108, 32, 97, 115, 115, 101, 114, 116, 32, 97, 115, 115, 117, 109, 101, 32, 105, 110, 112, 117, 116, 32, 115, 112, 108, 105, 116, 32, 109, 101, 114, 103, 101, 32, 116, 114, 117, 101, 32, 102, 97, 108, 115, 101]⟩ : ByteArray)
theorem words_ascii : ∀ (j : Nat) b, words.data.toList[j]? = some b → b.toNat < 128 := fun j b h => by
  have h1 : (words.data.toList.all fun b => decide (b.toNat < 128)) = true := by kernel_rfl
  exact of_decide_eq_true (List.all_eq_true.1 h1 b (List.mem_of_getElem? h))
theorem words_fields : Lib.fields words.data.toList = keys.map fun k => k.data.toList := by kernel_rfl
theorem c_Fields : Trip Tryz.prog 135 [(false, 1)] ([.v (.string (⟨#[118, 97, 114, 32, 102, 108, 97, 103, 32, 97, 114, 114, 97, 121, 32, 105, 102, 32, 102, 111, 114, 107, 32, 101, 108, 115, 101, 32, 101, 110, 100, 32, 119, 104, 105, 108, 101, 32, 117, 110, 114, 111, 108, 108, 32, 97, 115, 115, 101, 114, 116, 32, 97, 115, 115, 117, 109, 101, 32, 105, 110, 112, 117, 116, 32, 115, 112, 108, 105, 116, 32, 109, 101, 114, 103, 101, 32, 116, 114, 117, 101, 32, 102, 97, 108, 115, 101]⟩ : ByteArray))]) [(false, 1)] [.sl true 9 1 (List.map strc (keys))] [] := by
  have h := Trip.row1 (P := Tryz.prog) (f := 135) (x := .string words) (cs := keys.map .string) (e := 9) ⟨_, Tryz.func135, by decide, by decide⟩ rfl (by intro v hv; obtain ⟨s, _, rfl⟩ := List.mem_map.1 hv; rfl) (by decide) fun W Z hL _ =>
    (Any.strings_Fields_core Tryz.lays157 (by kernel_rfl) words W (by decide) words_ascii (asciiTab hL)).mono fun e w' ⟨h1, h2⟩ => by
      rw [words_fields] at h1 h2
      exact ⟨h1, h2⟩
  exact h
theorem c_isWord (s : ByteArray) : Trip Tryz.prog 110 [(false, 1)] ([.v (.string (s))]) [(false, 1)] [.v (.bool (isKey s))] [] := by
 refine Trip.of Tryz.func110 (by decide) (c := _) rfl rfl (Nat.le_of_ble_eq_true rfl) rfl (AftOk.nil _) <| .seq <| .rs fun k1 => .as rfl <| .z <| .seq <| .rs fun k2 => .c0 (c_Fields ) rfl (.dd .nil) (.frz [3, 0] (Frz.of_erase (erase_slo _ _ _ _ _ _ strc_e)) .nil) rfl <| .mv rfl ?_
 refine .c0 (c_ContainsS keys s) rfl (.dd (.dd .nil)) (.own [5, 0] .nil) rfl <| .as rfl <| .z <| .ret ?_
 exact fin0 (.inr rfl) (.one (svB (show (keys.any fun x => strEq s x) = (isKey s) by exact isKey_eq s)) .nil) (.dd .nil) rfl
theorem c_isName (s : ByteArray) (hs : s.size ≤ 9223372036854775807) : Trip Tryz.prog 79 [(false, 1)] ([.v (.string (s))]) [(false, 1)] [.v (.bool (nmOk s))] [] := by
 refine Trip.of Tryz.func79 (by decide) (c := _) rfl rfl (Nat.le_of_ble_eq_true rfl) rfl (AftOk.nil _) <| .seq <| .rs fun k1 => .as rfl <| .z <| .seq <| .seq <| .rs fun k2 => .mv rfl ?_
 refine .g (fun _ τ => ⟨_, .lenStr (.no rfl) rfl t9 rfl rfl rfl rfl rfl τ⟩) <| .mv rfl <| .z <| .block ?_
 refine .loop (X := Nat) (fun ζ => .of [(0, .one (.d (.v (.string (s))))), (5, .one (.d (.v (.int .i64 ((s.size : Int)))))), (6, .one (.d (.v (.int .i64 ((ζ : Int))))))] []) (fun ζ => ζ ≤ s.size ∧ allTo ζ (fun i => decide (97 ≤ byteAt s i ∧ byteAt s i ≤ 122)) = true) (fun ζ => s.size - ζ) ?_ ?_
 ·skip
  exact .here 0 (.of (.cons rfl (.cons rfl (.cons (svI (show (0) = ((0 : Int)) by first | rfl | omega | exact wrap_le (by omega) (by omega) | (rw [wrap_le (by omega) (by omega)]; omega))) .nil))) .nil) (show 0 ≤ s.size ∧ allTo 0 (fun i => decide (97 ≤ byteAt s i ∧ byteAt s i ≤ 122)) = true by exact ⟨by omega, rfl⟩)
 ·rintro j hI
  have hI : j ≤ s.size ∧ allTo j (fun i => decide (97 ≤ byteAt s i ∧ byteAt s i ≤ 122)) = true := hI
  refine .seq <| .rs fun k3 => .bi rfl <| .z <| .seq ?_
  refine .cond (t := decide ((j : Int) < (s.size : Int))) rfl (fun c0 => ?_) (fun c0 => ?_)
  ·have c0 := of_decide_eq_true c0
   refine .skip <| .seq <| .block <| .seq <| .rs fun k4 => .mv rfl <| .as rfl <| .z <| .seq ?_
   refine .rs fun k5 => .mv rfl <| .mv rfl <| .g (fun _ τ => ⟨_, .indexStr (.no rfl) rfl (z := byteAt s j) (j) t9 rfl rfl rfl rfl rfl (b8_get (by omega)) rfl rfl τ⟩) <| .c0 (c_isLetter (byteAt s j)) rfl (.dd .nil) (.own [12, 0] .nil) rfl <| .un rfl <| .z ?_
   refine .cond (t := !(decide ((byteAt s j) ≥ 97) && decide ((byteAt s j) ≤ 122))) rfl (fun c1 => ?_) (fun c1 => ?_)
   ·have c1 := (nT (aF dF dF)) c1
    refine .seq <| .rs fun k6 => .as rfl <| .z <| .ret ?_
    exact fin0 (.inr rfl) (.one (svB (show (false) = (nmOk s) by (simp only [nmOk, letters]; rw [allTo_fail (j := j) (by omega) (by simp only [decide_eq_false_iff_not]; omega)]; rfl))) .nil) (.dd .nil) rfl
   ·have c1 := (nF (aT dT dT)) c1
    refine .skip <| .rs fun k8 => .bi rfl <| .mv rfl <| .z ?_
    exact .here (j + 1) (.of (.cons rfl (.cons rfl (.cons (svI (show (IntKind.wrap .i64 ((j : Int) + 1)) = (((j + 1) : Int)) by first | rfl | omega | exact wrap_le (by omega) (by omega) | (rw [wrap_le (by omega) (by omega)]; omega))) .nil))) .nil) ⟨(show (j + 1) ≤ s.size ∧ allTo (j + 1) (fun i => decide (97 ≤ byteAt s i ∧ byteAt s i ≤ 122)) = true by exact ⟨by omega, allTo_step hI.2 (by simp only [decide_eq_true_eq]; omega)⟩), (show s.size - (j + 1) < s.size - j by omega)⟩
  ·have c0 := of_decide_eq_false c0
   refine .exit <| .seq ?_
   refine .reg (X := Unit) (fun ζ => .of [(2, .one (.d (.v (.bool ((inR (s.size : Int) 1 8 && !(isKey s)))))))] []) [⟨[0], some 15, [], []⟩, ⟨[15], some 16, [], []⟩, ⟨[16], some 17, [], []⟩, ⟨[17], some 18, [], []⟩, ⟨[18, 0], some 19, [], []⟩, ⟨[18, 19], some 20, [], []⟩, ⟨[18, 20], some 21, [], []⟩, ⟨[18, 21], some 22, [], []⟩, ⟨[22], some 2, [], []⟩] (fun k9 => ?_) ?_
   ·skip
    refine .move (.no rfl) rfl rfl rfl rfl <| .lenStr (.no rfl) rfl t9 rfl rfl rfl rfl rfl <| .call (.no rfl) rfl [] [] (c_within (s.size : Int) 1 8) rfl rfl rfl rfl rfl (.dd (.dd (.dd .nil))) rfl rfl (fun h => absurd rfl h) (.own [17, 0] .nil) (.nil) rfl rfl rfl (by simp) rfl rfl rfl <| .moveB (.no rfl) rfl rfl rfl rfl fun b10 g7_3 => ?_
    cases b10
    ·skip
     refine .off rfl rfl rfl rfl rfl rfl rfl <| .off rfl rfl rfl rfl rfl rfl rfl <| .off rfl rfl rfl rfl rfl rfl rfl <| .pick (.no rfl) rfl rfl rfl rfl rfl <| .assign (.no rfl) rfl rfl rfl rfl ?_
     exact .fin () (.of (.cons (svB (show (false) = ((inR (s.size : Int) 1 8 && !(isKey s))) by first | (simp only [g7_3, Bool.true_or, Bool.false_or, Bool.true_and, Bool.false_and, Bool.not_true, Bool.not_false]; done) | (simp [g7_3]; done) | (exfalso; simp_all; done))) .nil) .nil)
    ·skip
     refine .move (.on rfl rfl rfl rfl rfl) rfl rfl rfl rfl <| .call (.on rfl rfl rfl rfl rfl) rfl [] [] (c_isWord s) rfl rfl rfl rfl rfl (.dd .nil) rfl rfl (fun h => absurd rfl h) (.own [20, 0] .nil) (.nil) rfl rfl rfl (by simp) rfl rfl rfl <| .un (.on rfl rfl rfl rfl rfl) rfl rfl rfl rfl rfl <| .pick (.no rfl) rfl rfl rfl rfl rfl <| .assign (.no rfl) rfl rfl rfl rfl ?_
     exact .fin () (.of (.cons (svB (show (!(isKey s)) = ((inR (s.size : Int) 1 8 && !(isKey s))) by first | (simp only [g7_3, Bool.true_or, Bool.false_or, Bool.true_and, Bool.false_and, Bool.not_true, Bool.not_false]; done) | (simp [g7_3]; done) | (exfalso; simp_all; done))) .nil) .nil)
   intro _
   refine .ret ?_
   exact fin0 (.inr rfl) (.one (svB (show ((inR (s.size : Int) 1 8 && !(isKey s))) = (nmOk s) by (have hj : j = s.size := (by omega); subst hj; simp only [nmOk, letters]; rw [hI.2]; rfl))) .nil) (.dd .nil) rfl
theorem c_isRight1 (a : Arr) : Trip Tryz.prog 81 [(true, 2)] (Arr.c a) [(false, 1)] [.v (.bool (inR a.size 1 16))] [] := by
 refine Trip.of Tryz.func81 (by decide) (c := _) rfl rfl (Nat.le_of_ble_eq_true rfl) rfl (AftOk.nil _) <| .seq <| .rs fun k1 => .g (fun _ τ => ⟨_, .box (.no rfl) rfl rfl rfl rfl rfl τ⟩) <| .as rfl <| .z <| .seq <| .rs fun k2 => .fp t115 t2 rfl ?_
 refine .ld t2 rfl (.ptr _ _ _ _ _ rfl) rfl <| .c0 (c_within a.size 1 16) rfl (.dd (.dd (.dd .nil))) (.own [5, 0] .nil) rfl <| .as rfl <| .z <| .ret ?_
 exact fin0 (.inr rfl) (.one rfl .nil) (.dd .nil) rfl
theorem c_isRight (d : Decl) (hs : ∀ x ∈ Decl.names d, x.size ≤ 9223372036854775807) (hb : d.vars.length ≤ 1048576 ∧ d.flags.length ≤ 1048576 ∧ d.arrays.length ≤ 1048576) : Trip Tryz.prog 48 [(true, 3)] (Decl.c34 d) [(false, 1)] [.v (.bool (Decl.ok d))] [] := by
 refine Trip.of Tryz.func48 (by decide) (c := _) rfl rfl (Nat.le_of_ble_eq_true rfl) rfl (AftOk.nil _) <| .sla (t := 0) 0 rfl rfl fun hs1l => .sla (t := 0) 1 rfl rfl fun hs2l => .sla (t := 0) 2 rfl rfl fun hs3l => .seq <| .rs fun k4 => .g (fun _ τ => ⟨_, .box (.no rfl) rfl rfl rfl rfl rfl τ⟩) <| .as rfl <| .z ?_
 refine .seq <| .rs fun k5 => .lda t34 rfl (.ptr _ _ _ _ _ rfl) rfl <| .c0 (c_names d (by first | assumption | omega | exact hs _ (getD_mem (by omega)))) rfl (.dd (.dd (.dd .nil))) (.frz [8, 0] (Frz.of_erase (erase_slo _ _ _ _ _ _ strc_e)) .nil) rfl <| .as rfl <| .z <| .seq <| .seq <| .rs fun k6 => ?_
 refine .mv rfl <| .g (fun _ τ => ⟨_, .len (.no rfl) rfl (z := ((Decl.names d).length : Int)) t22 rfl rfl rfl (.d _ _) (map_len _ _) rfl τ⟩) <| .mv rfl <| .z <| .block ?_
 refine .loop (X := Nat) (fun ζ => .of [(1, .one (.ptr [1] (k4) 0)), (3, .one (.d (.sl false 9 1 (List.map strc (Decl.names d))))), (9, .one (.d (.sl false 9 1 (List.map strc (Decl.names d))))), (10, .one (.d (.v (.int .i64 (((Decl.names d).length : Int)))))), (11, .one (.d (.v (.int .i64 ((ζ : Int))))))] [([1], (k4, k4, .box [.d (.sl false 9 1 (List.map strc (d.vars))), .d (.sl false 9 1 (List.map strc (d.flags))), .d (.sl false 115 2 (List.map Arr.c (d.arrays)))]))]) (fun ζ => ζ ≤ (Decl.names d).length ∧ allTo ζ (nameOk (Decl.names d)) = true) (fun ζ => (Decl.names d).length - ζ) ?_ ?_
 ·skip
  exact .here 0 (.of (.cons rfl (.cons rfl (.cons rfl (.cons rfl (.cons (svI (show (0) = ((0 : Int)) by first | rfl | omega | exact wrap_le (by omega) (by omega) | (rw [wrap_le (by omega) (by omega)]; omega))) .nil))))) (.r rfl)) (show 0 ≤ (Decl.names d).length ∧ allTo 0 (nameOk (Decl.names d)) = true by exact ⟨by omega, rfl⟩)
 ·rintro j hI
  have hI : j ≤ (Decl.names d).length ∧ allTo j (nameOk (Decl.names d)) = true := hI
  have hn9 : (Decl.names d).length ≤ 3145728 := by simp [Decl.names]; omega
  refine .seq <| .rs fun k7 => .bi rfl <| .z <| .seq ?_
  refine .cond (t := decide ((j : Int) < ((Decl.names d).length : Int))) rfl (fun c0 => ?_) (fun c0 => ?_)
  ·have c0 := of_decide_eq_true c0
   refine .skip <| .seq <| .block <| .seq <| .rs fun k8 => .mv rfl <| .g (fun _ τ => ⟨_, .indexAddr (.no rfl) rfl (j) t22 rfl t9 rfl rfl rfl (.d _ _) rfl rfl rfl (map_get (by omega)) rfl rfl τ⟩) <| .ld t9 rfl (.d _) rfl <| .as rfl ?_
   refine .as rfl <| .z <| .seq ?_
   refine .reg (X := Unit) (fun ζ => .of [(1, .one (.ptr [1] (k4) 0)), (3, .one (.d (.sl false 9 1 (List.map strc (Decl.names d))))), (9, .one (.d (.sl false 9 1 (List.map strc (Decl.names d))))), (10, .one (.d (.v (.int .i64 (((Decl.names d).length : Int)))))), (11, .one (.d (.v (.int .i64 ((j : Int)))))), (25, .one (.d (.v (.bool ((!(nmOk ((Decl.names d).getD (j) default)) || ((Decl.names d).take j).any fun x => strEq ((Decl.names d).getD (j) default) x))))))] [([1], (k4, k4, .box [.d (.sl false 9 1 (List.map strc (d.vars))), .d (.sl false 9 1 (List.map strc (d.flags))), .d (.sl false 115 2 (List.map Arr.c (d.arrays)))]))]) [⟨[5], some 16, [], []⟩, ⟨[16], some 17, [], []⟩, ⟨[17], some 18, [], []⟩, ⟨[18], some 19, [], []⟩, ⟨[19, 3], some 20, [], []⟩, ⟨[19, 4], some 21, [], []⟩, ⟨[19, 20, 21], some 22, [], []⟩, ⟨[19, 5], some 23, [], []⟩, ⟨[19, 22, 23], some 24, [], []⟩, ⟨[19, 24], some 25, [], []⟩] (fun k9 => ?_) ?_
   ·skip
    refine .move (.no rfl) rfl rfl rfl rfl <| .call (.no rfl) rfl [] [] (c_isName ((Decl.names d).getD (j) default) (by first | assumption | omega | exact hs _ (getD_mem (by omega)))) rfl rfl rfl rfl rfl (.dd .nil) rfl rfl (fun h => absurd rfl h) (.own [17, 0] .nil) (.nil) rfl rfl rfl (by simp) rfl rfl rfl <| .un (.no rfl) rfl rfl rfl rfl rfl <| .moveB (.no rfl) rfl rfl rfl rfl fun b10 g5_3 => ?_
    cases b10
    ·skip
     refine .move (.on rfl rfl rfl rfl rfl) rfl rfl rfl rfl <| .move (.on rfl rfl rfl rfl rfl) rfl rfl rfl rfl <| .slice (.on rfl rfl rfl rfl rfl) rfl (lv := 0) (hv := j) (m := 0) t22 rfl t9 rfl rfl (.d _ _) rfl (by intro _ _ h; cases h) (by exact rfl) (by exact ⟨_, rfl⟩) (Nat.zero_le _) (le_map (by omega)) (cut_d0 _ _ _ _ _ _ _ _ _) rfl <| .move (.on rfl rfl rfl rfl rfl) rfl rfl rfl rfl <| .call (.on rfl rfl rfl rfl rfl) rfl [] [] (c_ContainsS ((Decl.names d).take j) ((Decl.names d).getD (j) default)) rfl rfl rfl rfl rfl (.dd (.dd .nil)) rfl rfl (fun h => absurd rfl h) (.own [24, 0] .nil) (.nil) rfl rfl rfl (by simp) rfl rfl rfl <| .pick (.no rfl) rfl rfl rfl rfl rfl ?_
     exact .fin () (.of (.cons rfl (.cons rfl (.cons rfl (.cons rfl (.cons rfl (.cons (svB (show (((Decl.names d).take j).any fun x => strEq ((Decl.names d).getD (j) default) x) = ((!(nmOk ((Decl.names d).getD (j) default)) || ((Decl.names d).take j).any fun x => strEq ((Decl.names d).getD (j) default) x)) by first | (simp only [g5_3, Bool.true_or, Bool.false_or, Bool.true_and, Bool.false_and, Bool.not_true, Bool.not_false]; done) | (simp [g5_3]; done) | (exfalso; simp_all; done))) .nil)))))) (.r rfl))
    ·skip
     refine .off rfl rfl rfl rfl rfl rfl rfl <| .off rfl rfl rfl rfl rfl rfl rfl <| .off rfl rfl rfl rfl rfl rfl rfl <| .off rfl rfl rfl rfl rfl rfl rfl <| .off rfl rfl rfl rfl rfl rfl rfl <| .pick (.no rfl) rfl rfl rfl rfl rfl ?_
     exact .fin () (.of (.cons rfl (.cons rfl (.cons rfl (.cons rfl (.cons rfl (.cons (svB (show (true) = ((!(nmOk ((Decl.names d).getD (j) default)) || ((Decl.names d).take j).any fun x => strEq ((Decl.names d).getD (j) default) x)) by first | (simp only [g5_3, Bool.true_or, Bool.false_or, Bool.true_and, Bool.false_and, Bool.not_true, Bool.not_false]; done) | (simp [g5_3]; done) | (exfalso; simp_all; done))) .nil)))))) (.r rfl))
   intro _
   refine .cond (t := (!(nmOk ((Decl.names d).getD (j) default)) || ((Decl.names d).take j).any fun x => strEq ((Decl.names d).getD (j) default) x)) rfl (fun c1 => ?_) (fun c1 => ?_)
   ·have c1 := (oT (nT id) id) c1
    refine .seq <| .rs fun k11 => .as rfl <| .z <| .ret ?_
    exact fin0 (.inr rfl) (.one (svB (show (false) = (Decl.ok d) by exact (Decl.ok_name2 (j := j) (by omega) c1).symm)) .nil) (.dd .nil) rfl
   ·have c1 := (oF (nF id) id) c1
    refine .skip <| .rs fun k13 => .bi rfl <| .mv rfl <| .z ?_
    exact .here (j + 1) (.of (.cons rfl (.cons rfl (.cons rfl (.cons rfl (.cons (svI (show (IntKind.wrap .i64 ((j : Int) + 1)) = (((j + 1) : Int)) by first | rfl | omega | exact wrap_le (by omega) (by omega) | (rw [wrap_le (by omega) (by omega)]; omega))) .nil))))) (.r rfl)) ⟨(show (j + 1) ≤ (Decl.names d).length ∧ allTo (j + 1) (nameOk (Decl.names d)) = true by exact ⟨by omega, allTo_step hI.2 (nameOk_of2 c1)⟩), (show (Decl.names d).length - (j + 1) < (Decl.names d).length - j by omega)⟩
  ·have c0 := of_decide_eq_false c0
   refine .exit <| .seq <| .rs fun k14 => .as rfl <| .z <| .seq ?_
   refine .reg (X := Unit) (fun ζ => .of [(2, .one (.d (.v (.bool ((((decide ((d.vars.length : Int) ≤ 5) && decide ((d.flags.length : Int) ≤ 3)) && decide ((d.arrays.length : Int) ≤ 2)) && d.arrays.all (fun x0 => inR x0.size 1 16)))))))] []) [⟨[1], some 27, [], []⟩, ⟨[27], some 28, [[1]], []⟩, ⟨[28], some 29, [], []⟩, ⟨[29], some 30, [], []⟩, ⟨[30], some 31, [], []⟩, ⟨[31, 1], some 32, [], []⟩, ⟨[31, 32], some 33, [[1]], []⟩, ⟨[31, 33], some 34, [], []⟩, ⟨[31, 34], some 35, [], []⟩, ⟨[31, 35], some 36, [], []⟩, ⟨[36], some 37, [], []⟩, ⟨[37, 1], some 38, [], []⟩, ⟨[37, 38], some 39, [[1]], []⟩, ⟨[37, 39], some 40, [], []⟩, ⟨[37, 40], some 41, [], []⟩, ⟨[37, 41], some 42, [], []⟩, ⟨[42], some 43, [], []⟩, ⟨[43, 1], some 44, [], []⟩, ⟨[43, 44], some 45, [[1]], []⟩, ⟨[43, 6], some 46, [], []⟩, ⟨[43, 45, 46], some 47, [], []⟩, ⟨[43, 47], some 48, [], []⟩, ⟨[48], some 2, [], []⟩] (fun k15 => ?_) ?_
   ·skip
    refine .fieldAddrP (.no rfl) rfl t34 rfl rfl t22 rfl rfl rfl rfl <| .load (.no rfl) rfl t22 rfl rfl (.ptr _ _ _ _ _ rfl) rfl rfl rfl rfl <| .len (.no rfl) rfl (z := (d.vars.length : Int)) t22 rfl rfl rfl (.d _ _) (map_len _ _) rfl <| .bin (.no rfl) rfl rfl rfl rfl rfl rfl <| .moveB (.no rfl) rfl rfl rfl rfl fun b16 g9_4 => ?_
    cases b16
    ·skip
     refine .off rfl rfl rfl rfl rfl rfl rfl <| .off rfl rfl rfl rfl rfl rfl rfl <| .off rfl rfl rfl rfl rfl rfl rfl <| .off rfl rfl rfl rfl rfl rfl rfl <| .pick (.no rfl) rfl rfl rfl rfl rfl <| .move (.no rfl) rfl rfl rfl rfl <| .off rfl rfl rfl rfl rfl rfl rfl <| .off rfl rfl rfl rfl rfl rfl rfl <| .off rfl rfl rfl rfl rfl rfl rfl ?_
     refine .off rfl rfl rfl rfl rfl rfl rfl <| .pick (.no rfl) rfl rfl rfl rfl rfl <| .move (.no rfl) rfl rfl rfl rfl <| .off rfl rfl rfl rfl rfl rfl rfl <| .off rfl rfl rfl rfl rfl rfl rfl <| .off rfl rfl rfl rfl rfl rfl rfl <| .off rfl rfl rfl rfl rfl rfl rfl <| .pick (.no rfl) rfl rfl rfl rfl rfl <| .assign (.no rfl) rfl rfl rfl rfl ?_
     exact .fin () (.of (.cons (svB (show (false) = ((((decide ((d.vars.length : Int) ≤ 5) && decide ((d.flags.length : Int) ≤ 3)) && decide ((d.arrays.length : Int) ≤ 2)) && d.arrays.all (fun x0 => inR x0.size 1 16))) by first | (simp only [g9_4, Bool.true_or, Bool.false_or, Bool.true_and, Bool.false_and, Bool.not_true, Bool.not_false]; done) | (simp [g9_4]; done) | (exfalso; simp_all; done))) .nil) .nil)
    ·skip
     refine .fieldAddrP (.on rfl rfl rfl rfl rfl) rfl t34 rfl rfl t22 rfl rfl rfl rfl <| .load (.on rfl rfl rfl rfl rfl) rfl t22 rfl rfl (.ptr _ _ _ _ _ rfl) rfl rfl rfl rfl <| .len (.on rfl rfl rfl rfl rfl) rfl (z := (d.flags.length : Int)) t22 rfl rfl rfl (.d _ _) (map_len _ _) rfl <| .bin (.on rfl rfl rfl rfl rfl) rfl rfl rfl rfl rfl rfl <| .pick (.no rfl) rfl rfl rfl rfl rfl <| .moveB (.no rfl) rfl rfl rfl rfl fun b17 g9_10 => ?_
     cases b17
     ·skip
      refine .off rfl rfl rfl rfl rfl rfl rfl <| .off rfl rfl rfl rfl rfl rfl rfl <| .off rfl rfl rfl rfl rfl rfl rfl <| .off rfl rfl rfl rfl rfl rfl rfl <| .pick (.no rfl) rfl rfl rfl rfl rfl <| .move (.no rfl) rfl rfl rfl rfl <| .off rfl rfl rfl rfl rfl rfl rfl <| .off rfl rfl rfl rfl rfl rfl rfl <| .off rfl rfl rfl rfl rfl rfl rfl ?_
      refine .off rfl rfl rfl rfl rfl rfl rfl <| .pick (.no rfl) rfl rfl rfl rfl rfl <| .assign (.no rfl) rfl rfl rfl rfl ?_
      exact .fin () (.of (.cons (svB (show (false) = ((((decide ((d.vars.length : Int) ≤ 5) && decide ((d.flags.length : Int) ≤ 3)) && decide ((d.arrays.length : Int) ≤ 2)) && d.arrays.all (fun x0 => inR x0.size 1 16))) by first | (simp only [g9_4, g9_10, Bool.true_or, Bool.false_or, Bool.true_and, Bool.false_and, Bool.not_true, Bool.not_false]; done) | (simp [g9_4, g9_10]; done) | (exfalso; simp_all; done))) .nil) .nil)
     ·skip
      refine .fieldAddrP (.on rfl rfl rfl rfl rfl) rfl t34 rfl rfl t32 rfl rfl rfl rfl <| .load (.on rfl rfl rfl rfl rfl) rfl t32 rfl rfl (.ptr _ _ _ _ _ rfl) rfl rfl rfl rfl <| .len (.on rfl rfl rfl rfl rfl) rfl (z := (d.arrays.length : Int)) t32 rfl rfl rfl (.d _ _) (map_len _ _) rfl <| .bin (.on rfl rfl rfl rfl rfl) rfl rfl rfl rfl rfl rfl <| .pick (.no rfl) rfl rfl rfl rfl rfl <| .moveB (.no rfl) rfl rfl rfl rfl fun b18 g9_16 => ?_
      cases b18
      ·skip
       refine .off rfl rfl rfl rfl rfl rfl rfl <| .off rfl rfl rfl rfl rfl rfl rfl <| .off rfl rfl rfl rfl rfl rfl rfl <| .off rfl rfl rfl rfl rfl rfl rfl <| .pick (.no rfl) rfl rfl rfl rfl rfl <| .assign (.no rfl) rfl rfl rfl rfl ?_
       exact .fin () (.of (.cons (svB (show (false) = ((((decide ((d.vars.length : Int) ≤ 5) && decide ((d.flags.length : Int) ≤ 3)) && decide ((d.arrays.length : Int) ≤ 2)) && d.arrays.all (fun x0 => inR x0.size 1 16))) by first | (simp only [g9_4, g9_10, g9_16, Bool.true_or, Bool.false_or, Bool.true_and, Bool.false_and, Bool.not_true, Bool.not_false]; done) | (simp [g9_4, g9_10, g9_16]; done) | (exfalso; simp_all; done))) .nil) .nil)
      ·skip
       refine .fieldAddrP (.on rfl rfl rfl rfl rfl) rfl t34 rfl rfl t32 rfl rfl rfl rfl <| .load (.on rfl rfl rfl rfl rfl) rfl t32 rfl rfl (.ptr _ _ _ _ _ rfl) rfl rfl rfl rfl <| .move (.on rfl rfl rfl rfl rfl) rfl rfl rfl rfl <| .call (.on rfl rfl rfl rfl rfl) rfl [] [] (c_areAllA d.arrays 81 [] [] (fun x0 => inR x0.size 1 16) (fun x0 => c_isRight1 x0)) rfl rfl rfl rfl rfl (.dd (.dd .nil)) rfl rfl (fun h => absurd rfl h) (.own [47, 0] .nil) (.nil) rfl rfl rfl (by simp) rfl rfl rfl <| .pick (.no rfl) rfl rfl rfl rfl rfl <| .assign (.no rfl) rfl rfl rfl rfl ?_
       exact .fin () (.of (.cons (svB (show (d.arrays.all (fun x0 => inR x0.size 1 16)) = ((((decide ((d.vars.length : Int) ≤ 5) && decide ((d.flags.length : Int) ≤ 3)) && decide ((d.arrays.length : Int) ≤ 2)) && d.arrays.all (fun x0 => inR x0.size 1 16))) by first | (simp only [g9_4, g9_10, g9_16, Bool.true_or, Bool.false_or, Bool.true_and, Bool.false_and, Bool.not_true, Bool.not_false]; done) | (simp [g9_4, g9_10, g9_16]; done) | (exfalso; simp_all; done))) .nil) .nil)
   intro _
   refine .ret ?_
   exact fin0 (.inr rfl) (.one (svB (show ((((decide ((d.vars.length : Int) ≤ 5) && decide ((d.flags.length : Int) ≤ 3)) && decide ((d.arrays.length : Int) ≤ 2)) && d.arrays.all (fun x0 => inR x0.size 1 16))) = (Decl.ok d) by exact Decl.ok_right (j := j) (by omega) hI.2)) .nil) (.dd .nil) rfl
end Go.Proofs

namespace Go.Proofs
open Go Go.Proofs Go.Ev

theorem c_sizeS (l : List ByteArray) : Trip Tryz.prog 88 [(false, 1)] ([.sl false 9 1 (List.map strc (l))]) [(false, 1)] [.v (.int .i64 ((l.length : Int)))] [] := by
 refine Trip.of Tryz.func88 (by decide) (c := _) rfl rfl (Nat.le_of_ble_eq_true rfl) rfl (AftOk.nil _) <| .sl (t := 0) rfl fun hs1l => .seq <| .rs fun k2 => .as rfl <| .z <| .seq <| .rs fun k3 => .mv rfl ?_
 refine .g (fun _ τ => ⟨_, .len (.no rfl) rfl (z := (l.length : Int)) t22 rfl rfl rfl (.d _ _) (map_len _ _) rfl τ⟩) <| .as rfl <| .z <| .ret ?_
 exact fin0 (.inr rfl) (.one rfl .nil) (.dd .nil) rfl
end Go.Proofs

namespace Go.Proofs
open Go Go.Proofs Go.Ev

theorem c_sizeA (l : List Arr) : Trip Tryz.prog 89 [(false, 1)] ([.sl false 115 2 (List.map Arr.c (l))]) [(false, 1)] [.v (.int .i64 ((l.length : Int)))] [] := by
 refine Trip.of Tryz.func89 (by decide) (c := _) rfl rfl (Nat.le_of_ble_eq_true rfl) rfl (AftOk.nil _) <| .sl (t := 0) rfl fun hs1l => .seq <| .rs fun k2 => .as rfl <| .z <| .seq <| .rs fun k3 => .mv rfl ?_
 refine .g (fun _ τ => ⟨_, .len (.no rfl) rfl (z := (l.length : Int)) t32 rfl rfl rfl (.d _ _) (map_len _ _) rfl τ⟩) <| .as rfl <| .z <| .ret ?_
 exact fin0 (.inr rfl) (.one rfl .nil) (.dd .nil) rfl
end Go.Proofs

namespace Go.Proofs
open Go Go.Proofs Go.Ev

def Entry.c (x : Entry) : List D := [.v (.int .i64 (x.line)), .v (.int .i64 (x.pick))]
theorem Entry.c_o (x : Entry) : ∀ d ∈ Entry.c x, Owned d := by simp [Entry.c, Owned.v]
theorem Entry.c_e (x : Entry) : (Entry.c x).map D.erase = Entry.c x := by simp [Entry.c, D.erase_v]
def Part.c58 (x : Part) : List D := [.sl false 104 2 (List.map Entry.c (x.token)), .sl false 55 3 (List.map Env.c55 (x.table))]
theorem Part.c58_e (x : Part) : (Part.c58 x).map D.erase = Part.c58 x := by simp [Part.c58, D.erase_v, erase_slo _ _ _ _ _ _ Entry.c_e, erase_slo _ _ _ _ _ _ Env.c55_e]
def Part.co58 (x : Part) : List D := [.sl true 104 2 (List.map Entry.c (x.token)), .sl true 55 3 (List.map Env.co55 (x.table))]
theorem Part.co58_e (x : Part) : (Part.co58 x).map D.erase = Part.c58 x := by simp [Part.co58, Part.c58, D.erase_v, erase_slo _ _ _ _ _ _ Entry.c_e, erase_slo _ _ _ _ _ _ Env.co55_e]
theorem Part.co58_o (x : Part) : ∀ d ∈ Part.co58 x, Owned d := by simp [Part.co58, Owned.v, Owned.map _ _ _ _ Entry.c_o, Owned.map _ _ _ _ Env.co55_o]
def i30 : TI := ⟨.sl 58, 1, 24, [.slice none 0 0]⟩
theorem t30 : TyOk Tryz.prog 30 i30 := ⟨Tryz.underlying30, by kernel_rfl⟩
theorem z30 : ZOk Tryz.prog 30 i30 := ⟨t30, rfl⟩
def i51 : TI := ⟨.sl 55, 1, 24, [.slice none 0 0]⟩
theorem t51 : TyOk Tryz.prog 51 i51 := ⟨Tryz.underlying51, by kernel_rfl⟩
theorem z51 : ZOk Tryz.prog 51 i51 := ⟨t51, rfl⟩
def i56 : TI := ⟨.sl 104, 1, 24, [.slice none 0 0]⟩
theorem t56 : TyOk Tryz.prog 56 i56 := ⟨Tryz.underlying56, by kernel_rfl⟩
theorem z56 : ZOk Tryz.prog 56 i56 := ⟨t56, rfl⟩
def i58 : TI := ⟨.st [(0, 56), (1, 51)], 2, 48, [.slice none 0 0, .slice none 0 0]⟩
theorem t58 : TyOk Tryz.prog 58 i58 := ⟨⟨_, Tryz.underlying58, rfl⟩, by kernel_rfl⟩
theorem z58 : ZOk Tryz.prog 58 i58 := ⟨t58, rfl⟩
theorem p58 : Places Tryz.prog [(0, 56), (1, 51)] [(0, 1), (1, 1)] := by unfold Places; kernel_rfl
def i104 : TI := ⟨.st [(0, 2), (1, 2)], 2, 16, [.int .i64 0, .int .i64 0]⟩
theorem t104 : TyOk Tryz.prog 104 i104 := ⟨⟨_, Tryz.underlying104, rfl⟩, by kernel_rfl⟩
theorem z104 : ZOk Tryz.prog 104 i104 := ⟨t104, rfl⟩
theorem p104 : Places Tryz.prog [(0, 2), (1, 2)] [(0, 1), (1, 1)] := by unfold Places; kernel_rfl
theorem c_eqEnvS (a : List Env) (b : List Env) : Trip Tryz.prog 54 [(false, 1), (false, 1)] ([.sl false 55 3 (List.map Env.c55 (a))] ++ [.sl false 55 3 (List.map Env.c55 (b))]) [(false, 1)] [.v (.bool (all2 Env.same a b))] [] := by
 refine Trip.of Tryz.func54 (by decide) (c := _) rfl rfl (Nat.le_of_ble_eq_true rfl) rfl (AftOk.nil _) <| .sl (t := 0) rfl fun hs1l => .sl (t := 1) rfl fun hs2l => .seq <| .rs fun k3 => .as rfl <| .z <| .seq <| .seq ?_
 refine .rs fun k4 => .mv rfl <| .g (fun _ τ => ⟨_, .len (.no rfl) rfl (z := (a.length : Int)) t51 rfl rfl rfl (.d _ _) (map_len _ _) rfl τ⟩) <| .mv rfl <| .g (fun _ τ => ⟨_, .len (.no rfl) rfl (z := (b.length : Int)) t51 rfl rfl rfl (.d _ _) (map_len _ _) rfl τ⟩) <| .bi rfl <| .z ?_
 refine .cond (t := (a.length : Int) != (b.length : Int)) rfl (fun c0 => ?_) (fun c0 => ?_)
 ·have c0 := (by simpa using c0 : ¬ ((a.length : Int) = (b.length : Int)))
  refine .seq <| .rs fun k5 => .as rfl <| .z <| .ret ?_
  exact fin0 (.inr rfl) (.one (svB (show (false) = (all2 Env.same a b) by exact (all2_ne _ c0).symm)) .nil) (.dd .nil) rfl
 ·have c0 := (by simpa using c0 : (a.length : Int) = (b.length : Int))
  refine .skip <| .seq <| .seq <| .rs fun k7 => .as rfl <| .z <| .block ?_
  refine .loop (X := Nat) (fun ζ => .of [(0, .one (.d (.sl false 55 3 (List.map Env.c55 (a))))), (1, .one (.d (.sl false 55 3 (List.map Env.c55 (b))))), (5, .one (.d (.v (.int .i64 ((ζ : Int))))))] []) (fun ζ => ζ ≤ a.length ∧ a.length = b.length ∧ allTo ζ (fun i => Env.same (a.getD i default) (b.getD i default)) = true) (fun ζ => a.length - ζ) ?_ ?_
  ·skip
   exact .here 0 (.of (.cons rfl (.cons rfl (.cons (svI (show (0) = ((0 : Int)) by first | rfl | omega | exact wrap_le (by omega) (by omega) | (rw [wrap_le (by omega) (by omega)]; omega))) .nil))) .nil) (show 0 ≤ a.length ∧ a.length = b.length ∧ allTo 0 (fun i => Env.same (a.getD i default) (b.getD i default)) = true by exact ⟨by omega, by omega, rfl⟩)
  ·rintro j hI
   have hI : j ≤ a.length ∧ a.length = b.length ∧ allTo j (fun i => Env.same (a.getD i default) (b.getD i default)) = true := hI
   refine .seq <| .seq <| .rs fun k8 => .mv rfl <| .mv rfl <| .g (fun _ τ => ⟨_, .len (.no rfl) rfl (z := (a.length : Int)) t51 rfl rfl rfl (.d _ _) (map_len _ _) rfl τ⟩) <| .bi rfl <| .z ?_
   refine .cond (t := decide ((j : Int) < (a.length : Int))) rfl (fun c1 => ?_) (fun c1 => ?_)
   ·have c1 := of_decide_eq_true c1
    refine .skip <| .seq <| .block <| .seq ?_
    refine .regD (X := Unit) (by kernel_rfl) (fun ζ => .of [(0, .one (.d (.sl false 55 3 (List.map Env.c55 (a))))), (1, .one (.d (.sl false 55 3 (List.map Env.c55 (b))))), (5, .one (.d (.v (.int .i64 ((j : Int)))))), (26, .one (.d (.v (.bool (!(Env.same (a.getD j default) (b.getD j default)))))))] []) [⟨[0], some 17, [], []⟩, ⟨[5], some 18, [], []⟩, ⟨[17, 18], some 19, [], []⟩, ⟨[19], some 20, [], []⟩, ⟨[1], some 21, [], []⟩, ⟨[5], some 22, [], []⟩, ⟨[21, 22], some 23, [], []⟩, ⟨[23], some 24, [], []⟩, ⟨[20, 24], some 25, [], []⟩, ⟨[25], some 26, [], []⟩] (by kernel_rfl) (fun k9 => ?_) ?_
    ·skip
     refine .move (.no rfl) rfl rfl rfl rfl <| .move (.no rfl) rfl rfl rfl rfl <| .indexAddr (.no rfl) rfl (j) t51 rfl t55 rfl rfl rfl (.d _ _) rfl rfl rfl (map_get (by omega)) rfl rfl <| .load (.no rfl) rfl t55 rfl rfl (.d _) rfl rfl rfl rfl <| .move (.no rfl) rfl rfl rfl rfl <| .move (.no rfl) rfl rfl rfl rfl <| .indexAddr (.no rfl) rfl (j) t51 rfl t55 rfl rfl rfl (.d _ _) rfl rfl rfl (map_get (by omega)) rfl rfl <| .load (.no rfl) rfl t55 rfl rfl (.d _) rfl rfl rfl rfl <| .call (.no rfl) rfl [] [] (c_eqEnv (a.getD j default) (b.getD j default)) rfl rfl rfl rfl rfl (.dd (.dd (.dd (.dd (.dd (.dd .nil)))))) rfl rfl (fun h => absurd rfl h) (.own [25, 0] .nil) (.nil) rfl rfl rfl (by simp) rfl rfl rfl ?_
     refine .un (.no rfl) rfl rfl rfl rfl rfl ?_
     exact .fin () (.of (.r rfl) .nil)
    intro _
    refine .cond (t := !(Env.same (a.getD j default) (b.getD j default))) rfl (fun c2 => ?_) (fun c2 => ?_)
    ·have c2 := (nT id) c2
     refine .seq <| .rs fun k10 => .as rfl <| .z <| .ret ?_
     exact fin0 (.inr rfl) (.one (svB (show (false) = (all2 Env.same a b) by exact (all2_fail _ (j := j) (by omega) (by simpa [] using c2)).symm)) .nil) (.dd .nil) rfl
    ·have c2 := (nF id) c2
     refine .skip <| .rs fun k12 => .mv rfl <| .bi rfl <| .as rfl <| .z ?_
     exact .here (j + 1) (.of (.cons rfl (.cons rfl (.cons (svI (show (IntKind.wrap .i64 ((j : Int) + 1)) = (((j + 1) : Int)) by first | rfl | omega | exact wrap_le (by omega) (by omega) | (rw [wrap_le (by omega) (by omega)]; omega))) .nil))) .nil) ⟨(show (j + 1) ≤ a.length ∧ a.length = b.length ∧ allTo (j + 1) (fun i => Env.same (a.getD i default) (b.getD i default)) = true by exact ⟨by omega, by omega, allTo_step hI.2.2 (by simpa [] using c2)⟩), (show a.length - (j + 1) < a.length - j by omega)⟩
   ·have c1 := of_decide_eq_false c1
    refine .exit <| .seq <| .rs fun k13 => .as rfl <| .z <| .ret ?_
    exact fin0 (.inr rfl) (.one (svB (show (true) = (all2 Env.same a b) by (have hj : j = a.length := (by omega); subst hj; exact (all2_done _ hI.2.1 hI.2.2).symm))) .nil) (.dd .nil) rfl
theorem c_eqEntry (a : Entry) (b : Entry) : Trip Tryz.prog 94 [(true, 2), (true, 2)] (Entry.c a ++ Entry.c b) [(false, 1)] [.v (.bool (Entry.same a b))] [] := by
 refine Trip.of Tryz.func94 (by decide) (c := _) rfl rfl (Nat.le_of_ble_eq_true rfl) rfl (AftOk.nil _) <| .seq <| .rs fun k1 => .g (fun _ τ => ⟨_, .box (.no rfl) rfl rfl rfl rfl rfl τ⟩) <| .g (fun _ τ => ⟨_, .box (.no rfl) rfl rfl rfl rfl rfl τ⟩) <| .as rfl <| .z <| .seq <| .seq ?_
 refine .rs fun k2 => .fp t104 t2 rfl <| .ld t2 rfl (.ptr _ _ _ _ _ rfl) rfl <| .fp t104 t2 rfl <| .ld t2 rfl (.ptr _ _ _ _ _ rfl) rfl <| .bi rfl <| .z ?_
 refine .cond (t := a.line != b.line) rfl (fun c0 => ?_) (fun c0 => ?_)
 ·have c0 := (by simpa using c0 : ¬ (a.line = b.line))
  refine .seq <| .rs fun k3 => .as rfl <| .z <| .ret ?_
  exact fin0 (.inr rfl) (.one (svB (show (false) = (Entry.same a b) by (simp_all [Entry.same]))) .nil) (.dd .nil) rfl
 ·have c0 := (by simpa using c0 : a.line = b.line)
  refine .skip <| .seq <| .seq <| .rs fun k5 => .fp t104 t2 rfl <| .ld t2 rfl (.ptr _ _ _ _ _ rfl) rfl <| .fp t104 t2 rfl <| .ld t2 rfl (.ptr _ _ _ _ _ rfl) rfl <| .bi rfl ?_
  refine .z ?_
  refine .cond (t := a.pick != b.pick) rfl (fun c1 => ?_) (fun c1 => ?_)
  ·have c1 := (by simpa using c1 : ¬ (a.pick = b.pick))
   refine .seq <| .rs fun k6 => .as rfl <| .z <| .ret ?_
   exact fin0 (.inr rfl) (.one (svB (show (false) = (Entry.same a b) by (simp_all [Entry.same]))) .nil) (.dd .nil) rfl
  ·have c1 := (by simpa using c1 : a.pick = b.pick)
   refine .skip <| .seq <| .rs fun k8 => .as rfl <| .z <| .ret ?_
   exact fin0 (.inr rfl) (.one (svB (show (true) = (Entry.same a b) by (simp_all [Entry.same]))) .nil) (.dd .nil) rfl
theorem c_eqEntryS (a : List Entry) (b : List Entry) : Trip Tryz.prog 53 [(false, 1), (false, 1)] ([.sl false 104 2 (List.map Entry.c (a))] ++ [.sl false 104 2 (List.map Entry.c (b))]) [(false, 1)] [.v (.bool (all2 Entry.same a b))] [] := by
 refine Trip.of Tryz.func53 (by decide) (c := _) rfl rfl (Nat.le_of_ble_eq_true rfl) rfl (AftOk.nil _) <| .sl (t := 0) rfl fun hs1l => .sl (t := 1) rfl fun hs2l => .seq <| .rs fun k3 => .as rfl <| .z <| .seq <| .seq ?_
 refine .rs fun k4 => .mv rfl <| .g (fun _ τ => ⟨_, .len (.no rfl) rfl (z := (a.length : Int)) t56 rfl rfl rfl (.d _ _) (map_len _ _) rfl τ⟩) <| .mv rfl <| .g (fun _ τ => ⟨_, .len (.no rfl) rfl (z := (b.length : Int)) t56 rfl rfl rfl (.d _ _) (map_len _ _) rfl τ⟩) <| .bi rfl <| .z ?_
 refine .cond (t := (a.length : Int) != (b.length : Int)) rfl (fun c0 => ?_) (fun c0 => ?_)
 ·have c0 := (by simpa using c0 : ¬ ((a.length : Int) = (b.length : Int)))
  refine .seq <| .rs fun k5 => .as rfl <| .z <| .ret ?_
  exact fin0 (.inr rfl) (.one (svB (show (false) = (all2 Entry.same a b) by exact (all2_ne _ c0).symm)) .nil) (.dd .nil) rfl
 ·have c0 := (by simpa using c0 : (a.length : Int) = (b.length : Int))
  refine .skip <| .seq <| .seq <| .rs fun k7 => .as rfl <| .z <| .block ?_
  refine .loop (X := Nat) (fun ζ => .of [(0, .one (.d (.sl false 104 2 (List.map Entry.c (a))))), (1, .one (.d (.sl false 104 2 (List.map Entry.c (b))))), (5, .one (.d (.v (.int .i64 ((ζ : Int))))))] []) (fun ζ => ζ ≤ a.length ∧ a.length = b.length ∧ allTo ζ (fun i => Entry.same (a.getD i default) (b.getD i default)) = true) (fun ζ => a.length - ζ) ?_ ?_
  ·skip
   exact .here 0 (.of (.cons rfl (.cons rfl (.cons (svI (show (0) = ((0 : Int)) by first | rfl | omega | exact wrap_le (by omega) (by omega) | (rw [wrap_le (by omega) (by omega)]; omega))) .nil))) .nil) (show 0 ≤ a.length ∧ a.length = b.length ∧ allTo 0 (fun i => Entry.same (a.getD i default) (b.getD i default)) = true by exact ⟨by omega, by omega, rfl⟩)
  ·rintro j hI
   have hI : j ≤ a.length ∧ a.length = b.length ∧ allTo j (fun i => Entry.same (a.getD i default) (b.getD i default)) = true := hI
   refine .seq <| .seq <| .rs fun k8 => .mv rfl <| .mv rfl <| .g (fun _ τ => ⟨_, .len (.no rfl) rfl (z := (a.length : Int)) t56 rfl rfl rfl (.d _ _) (map_len _ _) rfl τ⟩) <| .bi rfl <| .z ?_
   refine .cond (t := decide ((j : Int) < (a.length : Int))) rfl (fun c1 => ?_) (fun c1 => ?_)
   ·have c1 := of_decide_eq_true c1
    refine .skip <| .seq <| .block <| .seq ?_
    refine .regD (X := Unit) (by kernel_rfl) (fun ζ => .of [(0, .one (.d (.sl false 104 2 (List.map Entry.c (a))))), (1, .one (.d (.sl false 104 2 (List.map Entry.c (b))))), (5, .one (.d (.v (.int .i64 ((j : Int)))))), (26, .one (.d (.v (.bool (!(Entry.same (a.getD j default) (b.getD j default)))))))] []) [⟨[0], some 17, [], []⟩, ⟨[5], some 18, [], []⟩, ⟨[17, 18], some 19, [], []⟩, ⟨[19], some 20, [], []⟩, ⟨[1], some 21, [], []⟩, ⟨[5], some 22, [], []⟩, ⟨[21, 22], some 23, [], []⟩, ⟨[23], some 24, [], []⟩, ⟨[20, 24], some 25, [], []⟩, ⟨[25], some 26, [], []⟩] (by kernel_rfl) (fun k9 => ?_) ?_
    ·skip
     refine .move (.no rfl) rfl rfl rfl rfl <| .move (.no rfl) rfl rfl rfl rfl <| .indexAddr (.no rfl) rfl (j) t56 rfl t104 rfl rfl rfl (.d _ _) rfl rfl rfl (map_get (by omega)) rfl rfl <| .load (.no rfl) rfl t104 rfl rfl (.d _) rfl rfl rfl rfl <| .move (.no rfl) rfl rfl rfl rfl <| .move (.no rfl) rfl rfl rfl rfl <| .indexAddr (.no rfl) rfl (j) t56 rfl t104 rfl rfl rfl (.d _ _) rfl rfl rfl (map_get (by omega)) rfl rfl <| .load (.no rfl) rfl t104 rfl rfl (.d _) rfl rfl rfl rfl <| .call (.no rfl) rfl [] [] (c_eqEntry (a.getD j default) (b.getD j default)) rfl rfl rfl rfl rfl (.dd (.dd (.dd (.dd .nil)))) rfl rfl (fun h => absurd rfl h) (.own [25, 0] .nil) (.nil) rfl rfl rfl (by simp) rfl rfl rfl ?_
     refine .un (.no rfl) rfl rfl rfl rfl rfl ?_
     exact .fin () (.of (.r rfl) .nil)
    intro _
    refine .cond (t := !(Entry.same (a.getD j default) (b.getD j default))) rfl (fun c2 => ?_) (fun c2 => ?_)
    ·have c2 := (nT id) c2
     refine .seq <| .rs fun k10 => .as rfl <| .z <| .ret ?_
     exact fin0 (.inr rfl) (.one (svB (show (false) = (all2 Entry.same a b) by exact (all2_fail _ (j := j) (by omega) (by simpa [] using c2)).symm)) .nil) (.dd .nil) rfl
    ·have c2 := (nF id) c2
     refine .skip <| .rs fun k12 => .mv rfl <| .bi rfl <| .as rfl <| .z ?_
     exact .here (j + 1) (.of (.cons rfl (.cons rfl (.cons (svI (show (IntKind.wrap .i64 ((j : Int) + 1)) = (((j + 1) : Int)) by first | rfl | omega | exact wrap_le (by omega) (by omega) | (rw [wrap_le (by omega) (by omega)]; omega))) .nil))) .nil) ⟨(show (j + 1) ≤ a.length ∧ a.length = b.length ∧ allTo (j + 1) (fun i => Entry.same (a.getD i default) (b.getD i default)) = true by exact ⟨by omega, by omega, allTo_step hI.2.2 (by simpa [] using c2)⟩), (show a.length - (j + 1) < a.length - j by omega)⟩
   ·have c1 := of_decide_eq_false c1
    refine .exit <| .seq <| .rs fun k13 => .as rfl <| .z <| .ret ?_
    exact fin0 (.inr rfl) (.one (svB (show (true) = (all2 Entry.same a b) by (have hj : j = a.length := (by omega); subst hj; exact (all2_done _ hI.2.1 hI.2.2).symm))) .nil) (.dd .nil) rfl
theorem c_eqPart (a : Part) (b : Part) : Trip Tryz.prog 27 [(true, 2), (true, 2)] (Part.c58 a ++ Part.c58 b) [(false, 1)] [.v (.bool (Part.same a b))] [] := by
 refine Trip.of Tryz.func27 (by decide) (c := _) rfl rfl (Nat.le_of_ble_eq_true rfl) rfl (AftOk.nil _) <| .sla (t := 0) 0 rfl rfl fun hs1l => .sla (t := 0) 1 rfl rfl fun hs2l => .sla (t := 1) 0 rfl rfl fun hs3l => .sla (t := 1) 1 rfl rfl fun hs4l => .seq <| .rs fun k5 => .g (fun _ τ => ⟨_, .box (.no rfl) rfl rfl rfl rfl rfl τ⟩) <| .g (fun _ τ => ⟨_, .box (.no rfl) rfl rfl rfl rfl rfl τ⟩) ?_
 refine .as rfl <| .z <| .seq <| .seq <| .rs fun k6 => .fp t58 t56 rfl <| .ld t56 rfl (.ptr _ _ _ _ _ rfl) rfl <| .fp t58 t56 rfl <| .ld t56 rfl (.ptr _ _ _ _ _ rfl) rfl ?_
 refine .c0 (c_eqEntryS a.token b.token) rfl (.dd (.dd .nil)) (.own [9, 0] .nil) rfl <| .un rfl <| .z ?_
 refine .cond (t := !(all2 Entry.same a.token b.token)) rfl (fun c0 => ?_) (fun c0 => ?_)
 ·have c0 := (nT id) c0
  refine .seq <| .rs fun k7 => .as rfl <| .z <| .ret ?_
  exact fin0 (.inr rfl) (.one (svB (show (false) = (Part.same a b) by (simp_all [Part.same]))) .nil) (.dd .nil) rfl
 ·have c0 := (nF id) c0
  refine .skip <| .seq <| .seq <| .rs fun k9 => .fp t58 t51 rfl <| .ld t51 rfl (.ptr _ _ _ _ _ rfl) rfl <| .fp t58 t51 rfl <| .ld t51 rfl (.ptr _ _ _ _ _ rfl) rfl <| .c0 (c_eqEnvS a.table b.table) rfl (.dd (.dd .nil)) (.own [15, 0] .nil) rfl ?_
  refine .un rfl <| .z ?_
  refine .cond (t := !(all2 Env.same a.table b.table)) rfl (fun c1 => ?_) (fun c1 => ?_)
  ·have c1 := (nT id) c1
   refine .seq <| .rs fun k10 => .as rfl <| .z <| .ret ?_
   exact fin0 (.inr rfl) (.one (svB (show (false) = (Part.same a b) by (simp_all [Part.same]))) .nil) (.dd .nil) rfl
  ·have c1 := (nF id) c1
   refine .skip <| .seq <| .rs fun k12 => .as rfl <| .z <| .ret ?_
   exact fin0 (.inr rfl) (.one (svB (show (true) = (Part.same a b) by (simp_all [Part.same]))) .nil) (.dd .nil) rfl
theorem c_eqPartS (a : List Part) (b : List Part) : Trip Tryz.prog 9 [(false, 1), (false, 1)] ([.sl false 58 2 (List.map Part.c58 (a))] ++ [.sl false 58 2 (List.map Part.c58 (b))]) [(false, 1)] [.v (.bool (all2 Part.same a b))] [] := by
 refine Trip.of Tryz.func9 (by decide) (c := _) rfl rfl (Nat.le_of_ble_eq_true rfl) rfl (AftOk.nil _) <| .sl (t := 0) rfl fun hs1l => .sl (t := 1) rfl fun hs2l => .seq <| .rs fun k3 => .as rfl <| .z <| .seq <| .seq ?_
 refine .rs fun k4 => .mv rfl <| .g (fun _ τ => ⟨_, .len (.no rfl) rfl (z := (a.length : Int)) t30 rfl rfl rfl (.d _ _) (map_len _ _) rfl τ⟩) <| .mv rfl <| .g (fun _ τ => ⟨_, .len (.no rfl) rfl (z := (b.length : Int)) t30 rfl rfl rfl (.d _ _) (map_len _ _) rfl τ⟩) <| .bi rfl <| .z ?_
 refine .cond (t := (a.length : Int) != (b.length : Int)) rfl (fun c0 => ?_) (fun c0 => ?_)
 ·have c0 := (by simpa using c0 : ¬ ((a.length : Int) = (b.length : Int)))
  refine .seq <| .rs fun k5 => .as rfl <| .z <| .ret ?_
  exact fin0 (.inr rfl) (.one (svB (show (false) = (all2 Part.same a b) by exact (all2_ne _ c0).symm)) .nil) (.dd .nil) rfl
 ·have c0 := (by simpa using c0 : (a.length : Int) = (b.length : Int))
  refine .skip <| .seq <| .seq <| .rs fun k7 => .as rfl <| .z <| .block ?_
  refine .loop (X := Nat) (fun ζ => .of [(0, .one (.d (.sl false 58 2 (List.map Part.c58 (a))))), (1, .one (.d (.sl false 58 2 (List.map Part.c58 (b))))), (5, .one (.d (.v (.int .i64 ((ζ : Int))))))] []) (fun ζ => ζ ≤ a.length ∧ a.length = b.length ∧ allTo ζ (fun i => Part.same (a.getD i default) (b.getD i default)) = true) (fun ζ => a.length - ζ) ?_ ?_
  ·skip
   exact .here 0 (.of (.cons rfl (.cons rfl (.cons (svI (show (0) = ((0 : Int)) by first | rfl | omega | exact wrap_le (by omega) (by omega) | (rw [wrap_le (by omega) (by omega)]; omega))) .nil))) .nil) (show 0 ≤ a.length ∧ a.length = b.length ∧ allTo 0 (fun i => Part.same (a.getD i default) (b.getD i default)) = true by exact ⟨by omega, by omega, rfl⟩)
  ·rintro j hI
   have hI : j ≤ a.length ∧ a.length = b.length ∧ allTo j (fun i => Part.same (a.getD i default) (b.getD i default)) = true := hI
   refine .seq <| .seq <| .rs fun k8 => .mv rfl <| .mv rfl <| .g (fun _ τ => ⟨_, .len (.no rfl) rfl (z := (a.length : Int)) t30 rfl rfl rfl (.d _ _) (map_len _ _) rfl τ⟩) <| .bi rfl <| .z ?_
   refine .cond (t := decide ((j : Int) < (a.length : Int))) rfl (fun c1 => ?_) (fun c1 => ?_)
   ·have c1 := of_decide_eq_true c1
    refine .skip <| .seq <| .block <| .seq ?_
    refine .regD (X := Unit) (by kernel_rfl) (fun ζ => .of [(0, .one (.d (.sl false 58 2 (List.map Part.c58 (a))))), (1, .one (.d (.sl false 58 2 (List.map Part.c58 (b))))), (5, .one (.d (.v (.int .i64 ((j : Int)))))), (26, .one (.d (.v (.bool (!(Part.same (a.getD j default) (b.getD j default)))))))] []) [⟨[0], some 17, [], []⟩, ⟨[5], some 18, [], []⟩, ⟨[17, 18], some 19, [], []⟩, ⟨[19], some 20, [], []⟩, ⟨[1], some 21, [], []⟩, ⟨[5], some 22, [], []⟩, ⟨[21, 22], some 23, [], []⟩, ⟨[23], some 24, [], []⟩, ⟨[20, 24], some 25, [], []⟩, ⟨[25], some 26, [], []⟩] (by kernel_rfl) (fun k9 => ?_) ?_
    ·skip
     refine .move (.no rfl) rfl rfl rfl rfl <| .move (.no rfl) rfl rfl rfl rfl <| .indexAddr (.no rfl) rfl (j) t30 rfl t58 rfl rfl rfl (.d _ _) rfl rfl rfl (map_get (by omega)) rfl rfl <| .load (.no rfl) rfl t58 rfl rfl (.d _) rfl rfl rfl rfl <| .move (.no rfl) rfl rfl rfl rfl <| .move (.no rfl) rfl rfl rfl rfl <| .indexAddr (.no rfl) rfl (j) t30 rfl t58 rfl rfl rfl (.d _ _) rfl rfl rfl (map_get (by omega)) rfl rfl <| .load (.no rfl) rfl t58 rfl rfl (.d _) rfl rfl rfl rfl <| .call (.no rfl) rfl [] [] (c_eqPart (a.getD j default) (b.getD j default)) rfl rfl rfl rfl rfl (.dd (.dd (.dd (.dd .nil)))) rfl rfl (fun h => absurd rfl h) (.own [25, 0] .nil) (.nil) rfl rfl rfl (by simp) rfl rfl rfl ?_
     refine .un (.no rfl) rfl rfl rfl rfl rfl ?_
     exact .fin () (.of (.r rfl) .nil)
    intro _
    refine .cond (t := !(Part.same (a.getD j default) (b.getD j default))) rfl (fun c2 => ?_) (fun c2 => ?_)
    ·have c2 := (nT id) c2
     refine .seq <| .rs fun k10 => .as rfl <| .z <| .ret ?_
     exact fin0 (.inr rfl) (.one (svB (show (false) = (all2 Part.same a b) by exact (all2_fail _ (j := j) (by omega) (by simpa [] using c2)).symm)) .nil) (.dd .nil) rfl
    ·have c2 := (nF id) c2
     refine .skip <| .rs fun k12 => .mv rfl <| .bi rfl <| .as rfl <| .z ?_
     exact .here (j + 1) (.of (.cons rfl (.cons rfl (.cons (svI (show (IntKind.wrap .i64 ((j : Int) + 1)) = (((j + 1) : Int)) by first | rfl | omega | exact wrap_le (by omega) (by omega) | (rw [wrap_le (by omega) (by omega)]; omega))) .nil))) .nil) ⟨(show (j + 1) ≤ a.length ∧ a.length = b.length ∧ allTo (j + 1) (fun i => Part.same (a.getD i default) (b.getD i default)) = true by exact ⟨by omega, by omega, allTo_step hI.2.2 (by simpa [] using c2)⟩), (show a.length - (j + 1) < a.length - j by omega)⟩
   ·have c1 := of_decide_eq_false c1
    refine .exit <| .seq <| .rs fun k13 => .as rfl <| .z <| .ret ?_
    exact fin0 (.inr rfl) (.one (svB (show (true) = (all2 Part.same a b) by (have hj : j = a.length := (by omega); subst hj; exact (all2_done _ hI.2.1 hI.2.2).symm))) .nil) (.dd .nil) rfl
end Go.Proofs

namespace Go.Proofs
open Go Go.Proofs Go.Ev

def i123 : TI := ⟨.int .u64, 1, 8, [.int .u64 0]⟩
theorem t123 : TyOk Tryz.prog 123 i123 := ⟨Tryz.underlying123, by kernel_rfl⟩
theorem z123 : ZOk Tryz.prog 123 i123 := ⟨t123, rfl⟩
theorem c_l8Size (d : Decl) : Trip Tryz.prog 44 [(true, 3)] (Decl.c34 d) [(false, 1)] [.v (.int .i64 (leavesOf d))] [] := by
 refine Trip.of Tryz.func44 (by decide) (c := _) rfl rfl (Nat.le_of_ble_eq_true rfl) rfl (AftOk.nil _) <| .sla (t := 0) 0 rfl rfl fun hs1l => .sla (t := 0) 1 rfl rfl fun hs2l => .sla (t := 0) 2 rfl rfl fun hs3l => .seq <| .rs fun k4 => .g (fun _ τ => ⟨_, .box (.no rfl) rfl rfl rfl rfl rfl τ⟩) <| .as rfl <| .z ?_
 refine .seq <| .rs fun k5 => .fp t34 t22 rfl <| .ld t22 rfl (.ptr _ _ _ _ _ rfl) rfl <| .g (fun _ τ => ⟨_, .len (.no rfl) rfl (z := (d.flags.length : Int)) t22 rfl rfl rfl (.d _ _) (map_len _ _) rfl τ⟩) <| .g (fun _ τ => ⟨_, .conv (.no rfl) rfl t3 t123 rfl rfl rfl rfl (wrap_u64 (by omega) (by omega)) rfl τ⟩) <| .g (fun _ τ => ⟨_, .shl (.no rfl) rfl rfl rfl rfl (by omega) rfl rfl τ⟩) <| .as rfl <| .z ?_
 refine .ret ?_
 exact fin0 (.inr rfl) (.one (svI (show (IntKind.wrap .i64 (1 * 2 ^ (min ((d.flags.length : Int)).toNat (IntKind.bits .i64)))) = (leavesOf d) by rfl)) .nil) (.dd .nil) rfl
theorem c_leaves (d : Decl) : Trip Tryz.prog 52 [(true, 3)] (Decl.c34 d) [(false, 1)] [.v (.int .i64 (leavesOf d))] [] := by
 refine Trip.of Tryz.func52 (by decide) (c := _) rfl rfl (Nat.le_of_ble_eq_true rfl) rfl (AftOk.nil _) <| .sla (t := 0) 0 rfl rfl fun hs1l => .sla (t := 0) 1 rfl rfl fun hs2l => .sla (t := 0) 2 rfl rfl fun hs3l => .seq <| .rs fun k4 => .g (fun _ τ => ⟨_, .box (.no rfl) rfl rfl rfl rfl rfl τ⟩) <| .as rfl <| .z ?_
 refine .seq <| .rs fun k5 => .fp t34 t22 rfl <| .ld t22 rfl (.ptr _ _ _ _ _ rfl) rfl <| .g (fun _ τ => ⟨_, .len (.no rfl) rfl (z := (d.flags.length : Int)) t22 rfl rfl rfl (.d _ _) (map_len _ _) rfl τ⟩) <| .g (fun _ τ => ⟨_, .shl (.no rfl) rfl rfl rfl rfl (by omega) rfl rfl τ⟩) <| .as rfl <| .z <| .ret ?_
 exact fin0 (.inr rfl) (.one (svI (show (IntKind.wrap .i64 (1 * 2 ^ (min ((d.flags.length : Int)).toNat (IntKind.bits .i64)))) = (leavesOf d) by rfl)) .nil) (.dd .nil) rfl
end Go.Proofs

namespace Go.Proofs
open Go Go.Proofs Go.Ev

theorem c_markEnvS (a : List Env) (k : Int) (hk : 0 ≤ k ∧ k ≤ 1125899906842624) (hx : Small 1048576 a) : Trip Tryz.prog 33 [(false, 1), (false, 1)] ([.sl true 55 3 (List.map Env.co55 (a))] ++ [.v (.int .i64 (k))]) [(false, 1)] [.v (.int .i64 (EnvS.marks k a))] [(0, .sl true 55 3 (List.map Env.co55 (EnvS.mark k a)))] := by
 refine Trip.of Tryz.func33 (by decide) (c := _) rfl rfl (Nat.le_of_ble_eq_true rfl) rfl (AftOk.sl rfl (AftOk.nil _)) <| .seq <| .rs fun k1 => .as rfl <| .z <| .seq <| .seq <| .rs fun k2 => .as rfl ?_
 refine .z <| .block ?_
 refine .loop (X := Nat × Nat) (fun ζ => .of [(0, .one (.ref [0, 0, 0] (0))), (1, .one (.d (.v (.int .i64 (EnvS.at k a ζ.1))))), (5, .one (.d (.v (.int .i64 ((ζ.1 : Int))))))] [([0, 0, 0], (0, ζ.2, .row 55 3 (List.map Env.co55 (mkTo (EnvS.mk k a) a ζ.1))))]) (fun ζ => ζ.1 ≤ a.length) (fun ζ => a.length - ζ.1) ?_ ?_
 ·skip
  exact .here (0, 0) (.of (.cons rfl (.cons (svI (show (k) = (EnvS.at k a 0) by first | rfl | omega | exact (EnvS.at_zero k a).symm | (have hl9 : j < (mkTo (EnvS.mk k a) a j).length := (by rw [mkTo_len]; omega); have hr9 := EnvS.round (k := k) (a := a) (j := j) (by omega) rfl rfl rfl (wrap_le (a := EnvS.at k a j + 1) (by omega) (by omega)) rfl rfl; exact hr9.2) | exact wrap_le (by omega) (by omega))) (.cons (svI (show (0) = ((0 : Int)) by first | rfl | omega | exact (EnvS.at_zero k a).symm | (have hl9 : j < (mkTo (EnvS.mk k a) a j).length := (by rw [mkTo_len]; omega); have hr9 := EnvS.round (k := k) (a := a) (j := j) (by omega) rfl rfl rfl (wrap_le (a := EnvS.at k a j + 1) (by omega) (by omega)) rfl rfl; exact hr9.2) | exact wrap_le (by omega) (by omega))) .nil))) (.cons (rowE (show List.map Env.co55 (a) = List.map Env.co55 (mkTo (EnvS.mk k a) a 0) by first | (rw [← mkTo_zero]) | (have hl9 : j < (mkTo (EnvS.mk k a) a j).length := (by rw [mkTo_len]; omega); have hr9 := EnvS.round (k := k) (a := a) (j := j) (by omega) rfl rfl rfl (wrap_le (a := EnvS.at k a j + 1) (by omega) (by omega)) rfl rfl; exact congrArg _ hr9.1))) .nil)) (show 0 ≤ a.length by omega)
 ·rintro ⟨j, q3⟩ hI
  have hI : j ≤ a.length := hI
  have hA9 : a.length ≤ 1048576 := hx.1
  have hb9 := EnvS.bnd (k := k) hx (j := j) (by omega) hk
  have hE9 : j < a.length → (a.getD j default).ints.length ≤ 1048576 ∧ (a.getD j default).arrs.length ≤ 1048576 := fun h => hx.2 _ (getD_mem h)
  have hL : (mkTo (EnvS.mk k a) a j).length = a.length := mkTo_len _ _ _
  dsimp only
  refine .seq <| .seq <| .rs fun k4 => .mv rfl <| .mv rfl <| .g (fun _ τ => ⟨_, .len (.no rfl) rfl (z := ((mkTo (EnvS.mk k a) a j).length : Int)) t51 rfl rfl rfl (.ref _ _ _ _ _ rfl) (map_len _ _) rfl τ⟩) <| .bi rfl <| .z ?_
  refine .cond (t := decide ((j : Int) < ((mkTo (EnvS.mk k a) a j).length : Int))) rfl (fun c0 => ?_) (fun c0 => ?_)
  ·have c0 := of_decide_eq_true c0
   refine .skip <| .seq <| .block <| .seq <| .rs fun k5 => .mv rfl <| .mv rfl <| .mv rfl <| .g (fun _ τ => ⟨_, .quoRem (.no rfl) rfl (.inr ⟨rfl, rfl⟩) rfl rfl rfl rfl rfl τ⟩) ?_
   refine .bi rfl <| .g (fun _ τ => ⟨_, .indexAddr (.no rfl) rfl (j) t51 rfl t55 rfl rfl rfl (.ref _ _ _ _ _ rfl) rfl rfl rfl (map_get (by first | omega | (simp only [List.length_set, mkTo_len]; omega))) rfl rfl τ⟩) <| .g (fun _ τ => ⟨_, .fieldAddr (.no rfl) rfl t55 rfl rfl t4 rfl rfl rfl rfl [] (by simp) (by intro _ _ _ h; cases h) rfl rfl τ⟩) ?_
   refine .g (fun _ τ => ⟨_, .storeE (.no rfl) rfl (els' := List.map Env.co55 ((mkTo (EnvS.mk k a) a j).set j (Env.mk ((Int.tmod (EnvS.at k a j) 3) == 0) (((mkTo (EnvS.mk k a) a j).getD (j) default).ints) (((mkTo (EnvS.mk k a) a j).getD (j) default).arrs)))) t4 rfl rfl rfl rfl (map_get (by first | omega | (simp only [List.length_set, mkTo_len]; omega))) rfl rfl (.cons _ _ _ _ _ _ (.d _) .nil) rfl (Nat.le_of_ble_eq_true rfl) (set_map _ _ _ (Env.mk ((Int.tmod (EnvS.at k a j) 3) == 0) (((mkTo (EnvS.mk k a) a j).getD (j) default).ints) (((mkTo (EnvS.mk k a) a j).getD (j) default).arrs)) _ rfl) rfl rfl τ⟩) <| .z <| .seq <| .rs fun k6 => .mv rfl <| .bi rfl <| .as rfl <| .z <| .seq ?_
   refine .rs fun k7 => .mv rfl <| .mv rfl <| .g (fun _ τ => ⟨_, .indexAddr (.no rfl) rfl (j) t51 rfl t55 rfl rfl rfl (.ref _ _ _ _ _ rfl) rfl rfl rfl (map_get (by first | omega | (simp only [List.length_set, mkTo_len]; omega))) rfl rfl τ⟩) <| .g (fun _ τ => ⟨_, .fieldAddr (.no rfl) rfl t55 rfl rfl t53 rfl rfl rfl rfl [] (by simp) (by intro _ _ _ h; cases h) rfl rfl τ⟩) <| .ld t53 rfl (At.as (cs' := [.part [0, 0, 0] (0) (k5 + 1 + 1 + 1 + 1 + 1 + 1 + 1) (j) 1, .part [0, 0, 0] (0) (k5 + 1 + 1 + 1 + 1 + 1 + 1 + 1) (j) 2]) (.lent _ _ _ _ _ _ _ _ _ rfl (map_get (by first | omega | (simp only [List.length_set, mkTo_len]; omega)))) (by simp [Env.co55, D.lent, erase_slo _ _ _ _ _ _ Iv.c_e, erase_slo _ _ _ _ _ _ Iv.c_e])) rfl <| .mv rfl ?_
   refine .g (fun _ τ => ⟨_, .lend (.no rfl) rfl (els' := List.map Env.co55 (((mkTo (EnvS.mk k a) a j).set j (Env.mk ((Int.tmod (EnvS.at k a j) 3) == 0) (((mkTo (EnvS.mk k a) a j).getD (j) default).ints) (((mkTo (EnvS.mk k a) a j).getD (j) default).arrs))).set j (Env.mk ((((mkTo (EnvS.mk k a) a j).set j (Env.mk ((Int.tmod (EnvS.at k a j) 3) == 0) (((mkTo (EnvS.mk k a) a j).getD (j) default).ints) (((mkTo (EnvS.mk k a) a j).getD (j) default).arrs))).getD (j) default).live) (mkAll (mIv (IntKind.wrap .i64 ((EnvS.at k a j) + 1))) ((((mkTo (EnvS.mk k a) a j).set j (Env.mk ((Int.tmod (EnvS.at k a j) 3) == 0) (((mkTo (EnvS.mk k a) a j).getD (j) default).ints) (((mkTo (EnvS.mk k a) a j).getD (j) default).arrs))).getD (j) default).ints)) ((((mkTo (EnvS.mk k a) a j).set j (Env.mk ((Int.tmod (EnvS.at k a j) 3) == 0) (((mkTo (EnvS.mk k a) a j).getD (j) default).ints) (((mkTo (EnvS.mk k a) a j).getD (j) default).arrs))).getD (j) default).arrs)))) (c_markIntervalS ((((mkTo (EnvS.mk k a) a j).set j (Env.mk ((Int.tmod (EnvS.at k a j) 3) == 0) (((mkTo (EnvS.mk k a) a j).getD (j) default).ints) (((mkTo (EnvS.mk k a) a j).getD (j) default).arrs))).getD (j) default).ints) (IntKind.wrap .i64 ((EnvS.at k a j) + 1)) (by (have hj8 : j < a.length := (by omega); have hl9 : j < (mkTo (EnvS.mk k a) a j).length := (by rw [mkTo_len]; omega); have hE8 := hE9 hj8; rw [wrap_le (a := EnvS.at k a j + 1) (by omega) (by omega)]; simp only [set_getD, List.length_set, mkTo_len, hl9, hj8, EnvS.get hj8]; (try simp only [mkAll_len]); omega))) rfl rfl rfl rfl (map_get (by first | omega | (simp only [List.length_set, mkTo_len]; omega))) rfl (Owned.map _ _ _ _ Iv.c_o) (by intro d hd; simp at hd; subst hd; exact ⟨_, rfl⟩) rfl rfl (set_map _ _ _ (Env.mk ((((mkTo (EnvS.mk k a) a j).set j (Env.mk ((Int.tmod (EnvS.at k a j) 3) == 0) (((mkTo (EnvS.mk k a) a j).getD (j) default).ints) (((mkTo (EnvS.mk k a) a j).getD (j) default).arrs))).getD (j) default).live) (mkAll (mIv (IntKind.wrap .i64 ((EnvS.at k a j) + 1))) ((((mkTo (EnvS.mk k a) a j).set j (Env.mk ((Int.tmod (EnvS.at k a j) 3) == 0) (((mkTo (EnvS.mk k a) a j).getD (j) default).ints) (((mkTo (EnvS.mk k a) a j).getD (j) default).arrs))).getD (j) default).ints)) ((((mkTo (EnvS.mk k a) a j).set j (Env.mk ((Int.tmod (EnvS.at k a j) 3) == 0) (((mkTo (EnvS.mk k a) a j).getD (j) default).ints) (((mkTo (EnvS.mk k a) a j).getD (j) default).arrs))).getD (j) default).arrs)) _ rfl) rfl rfl τ⟩) ?_
   refine .as rfl <| .z <| .rs fun k8 => .mv rfl <| .mv rfl <| .g (fun _ τ => ⟨_, .indexAddr (.no rfl) rfl (j) t51 rfl t55 rfl rfl rfl (.ref _ _ _ _ _ rfl) rfl rfl rfl (map_get (by first | omega | (simp only [List.length_set, mkTo_len]; omega))) rfl rfl τ⟩) <| .g (fun _ τ => ⟨_, .fieldAddr (.no rfl) rfl t55 rfl rfl t53 rfl rfl rfl rfl [] (by simp) (by intro _ _ _ h; cases h) rfl rfl τ⟩) <| .ld t53 rfl (At.as (cs' := [.part [0, 0, 0] (0) (k7 + 1 + 1 + 1 + 1 + 1 + 1) (j) 2]) (.lent _ _ _ _ _ _ _ _ _ rfl (map_get (by first | omega | (simp only [List.length_set, mkTo_len]; omega)))) (by simp [Env.co55, D.lent, erase_slo _ _ _ _ _ _ Iv.c_e, erase_slo _ _ _ _ _ _ Iv.c_e])) rfl <| .mv rfl ?_
   refine .g (fun _ τ => ⟨_, .lend (.no rfl) rfl (els' := List.map Env.co55 ((((mkTo (EnvS.mk k a) a j).set j (Env.mk ((Int.tmod (EnvS.at k a j) 3) == 0) (((mkTo (EnvS.mk k a) a j).getD (j) default).ints) (((mkTo (EnvS.mk k a) a j).getD (j) default).arrs))).set j (Env.mk ((((mkTo (EnvS.mk k a) a j).set j (Env.mk ((Int.tmod (EnvS.at k a j) 3) == 0) (((mkTo (EnvS.mk k a) a j).getD (j) default).ints) (((mkTo (EnvS.mk k a) a j).getD (j) default).arrs))).getD (j) default).live) (mkAll (mIv (IntKind.wrap .i64 ((EnvS.at k a j) + 1))) ((((mkTo (EnvS.mk k a) a j).set j (Env.mk ((Int.tmod (EnvS.at k a j) 3) == 0) (((mkTo (EnvS.mk k a) a j).getD (j) default).ints) (((mkTo (EnvS.mk k a) a j).getD (j) default).arrs))).getD (j) default).ints)) ((((mkTo (EnvS.mk k a) a j).set j (Env.mk ((Int.tmod (EnvS.at k a j) 3) == 0) (((mkTo (EnvS.mk k a) a j).getD (j) default).ints) (((mkTo (EnvS.mk k a) a j).getD (j) default).arrs))).getD (j) default).arrs))).set j (Env.mk (((((mkTo (EnvS.mk k a) a j).set j (Env.mk ((Int.tmod (EnvS.at k a j) 3) == 0) (((mkTo (EnvS.mk k a) a j).getD (j) default).ints) (((mkTo (EnvS.mk k a) a j).getD (j) default).arrs))).set j (Env.mk ((((mkTo (EnvS.mk k a) a j).set j (Env.mk ((Int.tmod (EnvS.at k a j) 3) == 0) (((mkTo (EnvS.mk k a) a j).getD (j) default).ints) (((mkTo (EnvS.mk k a) a j).getD (j) default).arrs))).getD (j) default).live) (mkAll (mIv (IntKind.wrap .i64 ((EnvS.at k a j) + 1))) ((((mkTo (EnvS.mk k a) a j).set j (Env.mk ((Int.tmod (EnvS.at k a j) 3) == 0) (((mkTo (EnvS.mk k a) a j).getD (j) default).ints) (((mkTo (EnvS.mk k a) a j).getD (j) default).arrs))).getD (j) default).ints)) ((((mkTo (EnvS.mk k a) a j).set j (Env.mk ((Int.tmod (EnvS.at k a j) 3) == 0) (((mkTo (EnvS.mk k a) a j).getD (j) default).ints) (((mkTo (EnvS.mk k a) a j).getD (j) default).arrs))).getD (j) default).arrs))).getD (j) default).live) (((((mkTo (EnvS.mk k a) a j).set j (Env.mk ((Int.tmod (EnvS.at k a j) 3) == 0) (((mkTo (EnvS.mk k a) a j).getD (j) default).ints) (((mkTo (EnvS.mk k a) a j).getD (j) default).arrs))).set j (Env.mk ((((mkTo (EnvS.mk k a) a j).set j (Env.mk ((Int.tmod (EnvS.at k a j) 3) == 0) (((mkTo (EnvS.mk k a) a j).getD (j) default).ints) (((mkTo (EnvS.mk k a) a j).getD (j) default).arrs))).getD (j) default).live) (mkAll (mIv (IntKind.wrap .i64 ((EnvS.at k a j) + 1))) ((((mkTo (EnvS.mk k a) a j).set j (Env.mk ((Int.tmod (EnvS.at k a j) 3) == 0) (((mkTo (EnvS.mk k a) a j).getD (j) default).ints) (((mkTo (EnvS.mk k a) a j).getD (j) default).arrs))).getD (j) default).ints)) ((((mkTo (EnvS.mk k a) a j).set j (Env.mk ((Int.tmod (EnvS.at k a j) 3) == 0) (((mkTo (EnvS.mk k a) a j).getD (j) default).ints) (((mkTo (EnvS.mk k a) a j).getD (j) default).arrs))).getD (j) default).arrs))).getD (j) default).ints) (mkAll (mIv ((IntKind.wrap .i64 ((EnvS.at k a j) + 1)) + 2 * (((((mkTo (EnvS.mk k a) a j).set j (Env.mk ((Int.tmod (EnvS.at k a j) 3) == 0) (((mkTo (EnvS.mk k a) a j).getD (j) default).ints) (((mkTo (EnvS.mk k a) a j).getD (j) default).arrs))).getD (j) default).ints).length : Int))) (((((mkTo (EnvS.mk k a) a j).set j (Env.mk ((Int.tmod (EnvS.at k a j) 3) == 0) (((mkTo (EnvS.mk k a) a j).getD (j) default).ints) (((mkTo (EnvS.mk k a) a j).getD (j) default).arrs))).set j (Env.mk ((((mkTo (EnvS.mk k a) a j).set j (Env.mk ((Int.tmod (EnvS.at k a j) 3) == 0) (((mkTo (EnvS.mk k a) a j).getD (j) default).ints) (((mkTo (EnvS.mk k a) a j).getD (j) default).arrs))).getD (j) default).live) (mkAll (mIv (IntKind.wrap .i64 ((EnvS.at k a j) + 1))) ((((mkTo (EnvS.mk k a) a j).set j (Env.mk ((Int.tmod (EnvS.at k a j) 3) == 0) (((mkTo (EnvS.mk k a) a j).getD (j) default).ints) (((mkTo (EnvS.mk k a) a j).getD (j) default).arrs))).getD (j) default).ints)) ((((mkTo (EnvS.mk k a) a j).set j (Env.mk ((Int.tmod (EnvS.at k a j) 3) == 0) (((mkTo (EnvS.mk k a) a j).getD (j) default).ints) (((mkTo (EnvS.mk k a) a j).getD (j) default).arrs))).getD (j) default).arrs))).getD (j) default).arrs))))) (c_markIntervalS (((((mkTo (EnvS.mk k a) a j).set j (Env.mk ((Int.tmod (EnvS.at k a j) 3) == 0) (((mkTo (EnvS.mk k a) a j).getD (j) default).ints) (((mkTo (EnvS.mk k a) a j).getD (j) default).arrs))).set j (Env.mk ((((mkTo (EnvS.mk k a) a j).set j (Env.mk ((Int.tmod (EnvS.at k a j) 3) == 0) (((mkTo (EnvS.mk k a) a j).getD (j) default).ints) (((mkTo (EnvS.mk k a) a j).getD (j) default).arrs))).getD (j) default).live) (mkAll (mIv (IntKind.wrap .i64 ((EnvS.at k a j) + 1))) ((((mkTo (EnvS.mk k a) a j).set j (Env.mk ((Int.tmod (EnvS.at k a j) 3) == 0) (((mkTo (EnvS.mk k a) a j).getD (j) default).ints) (((mkTo (EnvS.mk k a) a j).getD (j) default).arrs))).getD (j) default).ints)) ((((mkTo (EnvS.mk k a) a j).set j (Env.mk ((Int.tmod (EnvS.at k a j) 3) == 0) (((mkTo (EnvS.mk k a) a j).getD (j) default).ints) (((mkTo (EnvS.mk k a) a j).getD (j) default).arrs))).getD (j) default).arrs))).getD (j) default).arrs) ((IntKind.wrap .i64 ((EnvS.at k a j) + 1)) + 2 * (((((mkTo (EnvS.mk k a) a j).set j (Env.mk ((Int.tmod (EnvS.at k a j) 3) == 0) (((mkTo (EnvS.mk k a) a j).getD (j) default).ints) (((mkTo (EnvS.mk k a) a j).getD (j) default).arrs))).getD (j) default).ints).length : Int)) (by (have hj8 : j < a.length := (by omega); have hl9 : j < (mkTo (EnvS.mk k a) a j).length := (by rw [mkTo_len]; omega); have hE8 := hE9 hj8; rw [wrap_le (a := EnvS.at k a j + 1) (by omega) (by omega)]; simp only [set_getD, List.length_set, mkTo_len, hl9, hj8, EnvS.get hj8]; (try simp only [mkAll_len]); omega))) rfl rfl rfl rfl (map_get (by first | omega | (simp only [List.length_set, mkTo_len]; omega))) rfl (Owned.map _ _ _ _ Iv.c_o) (by intro d hd; simp at hd; subst hd; exact ⟨_, rfl⟩) rfl rfl (set_map _ _ _ (Env.mk (((((mkTo (EnvS.mk k a) a j).set j (Env.mk ((Int.tmod (EnvS.at k a j) 3) == 0) (((mkTo (EnvS.mk k a) a j).getD (j) default).ints) (((mkTo (EnvS.mk k a) a j).getD (j) default).arrs))).set j (Env.mk ((((mkTo (EnvS.mk k a) a j).set j (Env.mk ((Int.tmod (EnvS.at k a j) 3) == 0) (((mkTo (EnvS.mk k a) a j).getD (j) default).ints) (((mkTo (EnvS.mk k a) a j).getD (j) default).arrs))).getD (j) default).live) (mkAll (mIv (IntKind.wrap .i64 ((EnvS.at k a j) + 1))) ((((mkTo (EnvS.mk k a) a j).set j (Env.mk ((Int.tmod (EnvS.at k a j) 3) == 0) (((mkTo (EnvS.mk k a) a j).getD (j) default).ints) (((mkTo (EnvS.mk k a) a j).getD (j) default).arrs))).getD (j) default).ints)) ((((mkTo (EnvS.mk k a) a j).set j (Env.mk ((Int.tmod (EnvS.at k a j) 3) == 0) (((mkTo (EnvS.mk k a) a j).getD (j) default).ints) (((mkTo (EnvS.mk k a) a j).getD (j) default).arrs))).getD (j) default).arrs))).getD (j) default).live) (((((mkTo (EnvS.mk k a) a j).set j (Env.mk ((Int.tmod (EnvS.at k a j) 3) == 0) (((mkTo (EnvS.mk k a) a j).getD (j) default).ints) (((mkTo (EnvS.mk k a) a j).getD (j) default).arrs))).set j (Env.mk ((((mkTo (EnvS.mk k a) a j).set j (Env.mk ((Int.tmod (EnvS.at k a j) 3) == 0) (((mkTo (EnvS.mk k a) a j).getD (j) default).ints) (((mkTo (EnvS.mk k a) a j).getD (j) default).arrs))).getD (j) default).live) (mkAll (mIv (IntKind.wrap .i64 ((EnvS.at k a j) + 1))) ((((mkTo (EnvS.mk k a) a j).set j (Env.mk ((Int.tmod (EnvS.at k a j) 3) == 0) (((mkTo (EnvS.mk k a) a j).getD (j) default).ints) (((mkTo (EnvS.mk k a) a j).getD (j) default).arrs))).getD (j) default).ints)) ((((mkTo (EnvS.mk k a) a j).set j (Env.mk ((Int.tmod (EnvS.at k a j) 3) == 0) (((mkTo (EnvS.mk k a) a j).getD (j) default).ints) (((mkTo (EnvS.mk k a) a j).getD (j) default).arrs))).getD (j) default).arrs))).getD (j) default).ints) (mkAll (mIv ((IntKind.wrap .i64 ((EnvS.at k a j) + 1)) + 2 * (((((mkTo (EnvS.mk k a) a j).set j (Env.mk ((Int.tmod (EnvS.at k a j) 3) == 0) (((mkTo (EnvS.mk k a) a j).getD (j) default).ints) (((mkTo (EnvS.mk k a) a j).getD (j) default).arrs))).getD (j) default).ints).length : Int))) (((((mkTo (EnvS.mk k a) a j).set j (Env.mk ((Int.tmod (EnvS.at k a j) 3) == 0) (((mkTo (EnvS.mk k a) a j).getD (j) default).ints) (((mkTo (EnvS.mk k a) a j).getD (j) default).arrs))).set j (Env.mk ((((mkTo (EnvS.mk k a) a j).set j (Env.mk ((Int.tmod (EnvS.at k a j) 3) == 0) (((mkTo (EnvS.mk k a) a j).getD (j) default).ints) (((mkTo (EnvS.mk k a) a j).getD (j) default).arrs))).getD (j) default).live) (mkAll (mIv (IntKind.wrap .i64 ((EnvS.at k a j) + 1))) ((((mkTo (EnvS.mk k a) a j).set j (Env.mk ((Int.tmod (EnvS.at k a j) 3) == 0) (((mkTo (EnvS.mk k a) a j).getD (j) default).ints) (((mkTo (EnvS.mk k a) a j).getD (j) default).arrs))).getD (j) default).ints)) ((((mkTo (EnvS.mk k a) a j).set j (Env.mk ((Int.tmod (EnvS.at k a j) 3) == 0) (((mkTo (EnvS.mk k a) a j).getD (j) default).ints) (((mkTo (EnvS.mk k a) a j).getD (j) default).arrs))).getD (j) default).arrs))).getD (j) default).arrs))) _ rfl) rfl rfl τ⟩) ?_
   refine .as rfl <| .z <| .rs fun k9 => .mv rfl <| .bi rfl <| .as rfl <| .z ?_
   exact .here ((j + 1), (k8 + 1 + 1 + 1 + 1 + 1 + 1)) (.of (.cons rfl (.cons (svI (show (((IntKind.wrap .i64 ((EnvS.at k a j) + 1)) + 2 * (((((mkTo (EnvS.mk k a) a j).set j (Env.mk ((Int.tmod (EnvS.at k a j) 3) == 0) (((mkTo (EnvS.mk k a) a j).getD (j) default).ints) (((mkTo (EnvS.mk k a) a j).getD (j) default).arrs))).getD (j) default).ints).length : Int)) + 2 * ((((((mkTo (EnvS.mk k a) a j).set j (Env.mk ((Int.tmod (EnvS.at k a j) 3) == 0) (((mkTo (EnvS.mk k a) a j).getD (j) default).ints) (((mkTo (EnvS.mk k a) a j).getD (j) default).arrs))).set j (Env.mk ((((mkTo (EnvS.mk k a) a j).set j (Env.mk ((Int.tmod (EnvS.at k a j) 3) == 0) (((mkTo (EnvS.mk k a) a j).getD (j) default).ints) (((mkTo (EnvS.mk k a) a j).getD (j) default).arrs))).getD (j) default).live) (mkAll (mIv (IntKind.wrap .i64 ((EnvS.at k a j) + 1))) ((((mkTo (EnvS.mk k a) a j).set j (Env.mk ((Int.tmod (EnvS.at k a j) 3) == 0) (((mkTo (EnvS.mk k a) a j).getD (j) default).ints) (((mkTo (EnvS.mk k a) a j).getD (j) default).arrs))).getD (j) default).ints)) ((((mkTo (EnvS.mk k a) a j).set j (Env.mk ((Int.tmod (EnvS.at k a j) 3) == 0) (((mkTo (EnvS.mk k a) a j).getD (j) default).ints) (((mkTo (EnvS.mk k a) a j).getD (j) default).arrs))).getD (j) default).arrs))).getD (j) default).arrs).length : Int)) = (EnvS.at k a (j + 1)) by first | rfl | omega | exact (EnvS.at_zero k a).symm | (have hl9 : j < (mkTo (EnvS.mk k a) a j).length := (by rw [mkTo_len]; omega); have hr9 := EnvS.round (k := k) (a := a) (j := j) (by omega) rfl rfl rfl (wrap_le (a := EnvS.at k a j + 1) (by omega) (by omega)) rfl rfl; exact hr9.2) | exact wrap_le (by omega) (by omega))) (.cons (svI (show (IntKind.wrap .i64 ((j : Int) + 1)) = (((j + 1) : Int)) by first | rfl | omega | exact (EnvS.at_zero k a).symm | (have hl9 : j < (mkTo (EnvS.mk k a) a j).length := (by rw [mkTo_len]; omega); have hr9 := EnvS.round (k := k) (a := a) (j := j) (by omega) rfl rfl rfl (wrap_le (a := EnvS.at k a j + 1) (by omega) (by omega)) rfl rfl; exact hr9.2) | exact wrap_le (by omega) (by omega))) .nil))) (.cons (rowE (show List.map Env.co55 ((((mkTo (EnvS.mk k a) a j).set j (Env.mk ((Int.tmod (EnvS.at k a j) 3) == 0) (((mkTo (EnvS.mk k a) a j).getD (j) default).ints) (((mkTo (EnvS.mk k a) a j).getD (j) default).arrs))).set j (Env.mk ((((mkTo (EnvS.mk k a) a j).set j (Env.mk ((Int.tmod (EnvS.at k a j) 3) == 0) (((mkTo (EnvS.mk k a) a j).getD (j) default).ints) (((mkTo (EnvS.mk k a) a j).getD (j) default).arrs))).getD (j) default).live) (mkAll (mIv (IntKind.wrap .i64 ((EnvS.at k a j) + 1))) ((((mkTo (EnvS.mk k a) a j).set j (Env.mk ((Int.tmod (EnvS.at k a j) 3) == 0) (((mkTo (EnvS.mk k a) a j).getD (j) default).ints) (((mkTo (EnvS.mk k a) a j).getD (j) default).arrs))).getD (j) default).ints)) ((((mkTo (EnvS.mk k a) a j).set j (Env.mk ((Int.tmod (EnvS.at k a j) 3) == 0) (((mkTo (EnvS.mk k a) a j).getD (j) default).ints) (((mkTo (EnvS.mk k a) a j).getD (j) default).arrs))).getD (j) default).arrs))).set j (Env.mk (((((mkTo (EnvS.mk k a) a j).set j (Env.mk ((Int.tmod (EnvS.at k a j) 3) == 0) (((mkTo (EnvS.mk k a) a j).getD (j) default).ints) (((mkTo (EnvS.mk k a) a j).getD (j) default).arrs))).set j (Env.mk ((((mkTo (EnvS.mk k a) a j).set j (Env.mk ((Int.tmod (EnvS.at k a j) 3) == 0) (((mkTo (EnvS.mk k a) a j).getD (j) default).ints) (((mkTo (EnvS.mk k a) a j).getD (j) default).arrs))).getD (j) default).live) (mkAll (mIv (IntKind.wrap .i64 ((EnvS.at k a j) + 1))) ((((mkTo (EnvS.mk k a) a j).set j (Env.mk ((Int.tmod (EnvS.at k a j) 3) == 0) (((mkTo (EnvS.mk k a) a j).getD (j) default).ints) (((mkTo (EnvS.mk k a) a j).getD (j) default).arrs))).getD (j) default).ints)) ((((mkTo (EnvS.mk k a) a j).set j (Env.mk ((Int.tmod (EnvS.at k a j) 3) == 0) (((mkTo (EnvS.mk k a) a j).getD (j) default).ints) (((mkTo (EnvS.mk k a) a j).getD (j) default).arrs))).getD (j) default).arrs))).getD (j) default).live) (((((mkTo (EnvS.mk k a) a j).set j (Env.mk ((Int.tmod (EnvS.at k a j) 3) == 0) (((mkTo (EnvS.mk k a) a j).getD (j) default).ints) (((mkTo (EnvS.mk k a) a j).getD (j) default).arrs))).set j (Env.mk ((((mkTo (EnvS.mk k a) a j).set j (Env.mk ((Int.tmod (EnvS.at k a j) 3) == 0) (((mkTo (EnvS.mk k a) a j).getD (j) default).ints) (((mkTo (EnvS.mk k a) a j).getD (j) default).arrs))).getD (j) default).live) (mkAll (mIv (IntKind.wrap .i64 ((EnvS.at k a j) + 1))) ((((mkTo (EnvS.mk k a) a j).set j (Env.mk ((Int.tmod (EnvS.at k a j) 3) == 0) (((mkTo (EnvS.mk k a) a j).getD (j) default).ints) (((mkTo (EnvS.mk k a) a j).getD (j) default).arrs))).getD (j) default).ints)) ((((mkTo (EnvS.mk k a) a j).set j (Env.mk ((Int.tmod (EnvS.at k a j) 3) == 0) (((mkTo (EnvS.mk k a) a j).getD (j) default).ints) (((mkTo (EnvS.mk k a) a j).getD (j) default).arrs))).getD (j) default).arrs))).getD (j) default).ints) (mkAll (mIv ((IntKind.wrap .i64 ((EnvS.at k a j) + 1)) + 2 * (((((mkTo (EnvS.mk k a) a j).set j (Env.mk ((Int.tmod (EnvS.at k a j) 3) == 0) (((mkTo (EnvS.mk k a) a j).getD (j) default).ints) (((mkTo (EnvS.mk k a) a j).getD (j) default).arrs))).getD (j) default).ints).length : Int))) (((((mkTo (EnvS.mk k a) a j).set j (Env.mk ((Int.tmod (EnvS.at k a j) 3) == 0) (((mkTo (EnvS.mk k a) a j).getD (j) default).ints) (((mkTo (EnvS.mk k a) a j).getD (j) default).arrs))).set j (Env.mk ((((mkTo (EnvS.mk k a) a j).set j (Env.mk ((Int.tmod (EnvS.at k a j) 3) == 0) (((mkTo (EnvS.mk k a) a j).getD (j) default).ints) (((mkTo (EnvS.mk k a) a j).getD (j) default).arrs))).getD (j) default).live) (mkAll (mIv (IntKind.wrap .i64 ((EnvS.at k a j) + 1))) ((((mkTo (EnvS.mk k a) a j).set j (Env.mk ((Int.tmod (EnvS.at k a j) 3) == 0) (((mkTo (EnvS.mk k a) a j).getD (j) default).ints) (((mkTo (EnvS.mk k a) a j).getD (j) default).arrs))).getD (j) default).ints)) ((((mkTo (EnvS.mk k a) a j).set j (Env.mk ((Int.tmod (EnvS.at k a j) 3) == 0) (((mkTo (EnvS.mk k a) a j).getD (j) default).ints) (((mkTo (EnvS.mk k a) a j).getD (j) default).arrs))).getD (j) default).arrs))).getD (j) default).arrs)))) = List.map Env.co55 (mkTo (EnvS.mk k a) a (j + 1)) by first | (rw [← mkTo_zero]) | (have hl9 : j < (mkTo (EnvS.mk k a) a j).length := (by rw [mkTo_len]; omega); have hr9 := EnvS.round (k := k) (a := a) (j := j) (by omega) rfl rfl rfl (wrap_le (a := EnvS.at k a j + 1) (by omega) (by omega)) rfl rfl; exact congrArg _ hr9.1))) .nil)) ⟨(show (j + 1) ≤ a.length by omega), (show a.length - (j + 1) < a.length - j by omega)⟩
  ·have c0 := of_decide_eq_false c0
   refine .exit <| .seq <| .rs fun k10 => .mv rfl <| .as rfl <| .z <| .ret ?_
   have e12 : (mkTo (EnvS.mk k a) a j) = (EnvS.mark k a) := by first | exact EnvS.at_all (by omega) | exact mkTo_all _ _ hI (by omega)
   exact fin1 (.inr rfl) [] [([0, 0, 0], (0, q3, .row 55 3 (List.map Env.co55 (EnvS.mark k a))))] (.one (svI (show (EnvS.at k a j) = (EnvS.marks k a) by first | exact EnvS.at_all (by omega) | exact mkTo_all _ _ hI (by omega))) .nil) (.dd (.cons (.ref (.head _)) .nil)) rfl rfl (.cons (rowE (congrArg (List.map Env.co55) e12)) .nil)
theorem c_heldEnvS (a : List Env) (k : Int) (hk : 0 ≤ k ∧ k ≤ 1125899906842624) (hx : Small 1048576 a) (hm : EnvS.Marked k a) : Trip Tryz.prog 35 [(false, 1), (false, 1)] ([.sl false 55 3 (List.map Env.c55 (a))] ++ [.v (.int .i64 (k))]) [(false, 1)] [.v (.int .i64 (EnvS.marks k a))] [] := by
 refine Trip.of Tryz.func35 (by decide) (c := _) rfl rfl (Nat.le_of_ble_eq_true rfl) rfl (AftOk.nil _) <| .sl (t := 0) rfl fun hs1l => .seq <| .rs fun k2 => .as rfl <| .z <| .seq <| .seq <| .rs fun k3 => ?_
 refine .as rfl <| .z <| .block ?_
 refine .loop (X := Nat) (fun ζ => .of [(0, .one (.d (.sl false 55 3 (List.map Env.c55 (a))))), (1, .one (.d (.v (.int .i64 (EnvS.at k a ζ))))), (5, .one (.d (.v (.int .i64 ((ζ : Int))))))] []) (fun ζ => ζ ≤ a.length) (fun ζ => a.length - ζ) ?_ ?_
 ·skip
  exact .here 0 (.of (.cons rfl (.cons (svI (show (k) = (EnvS.at k a 0) by first | rfl | omega | exact (EnvS.at_zero k a).symm | (rw [wrap_le (a := EnvS.at k a j + 1) (by omega) (by omega), EnvS.at_step (by omega)]; unfold Env.wt; omega) | exact wrap_le (by omega) (by omega))) (.cons (svI (show (0) = ((0 : Int)) by first | rfl | omega | exact (EnvS.at_zero k a).symm | (rw [wrap_le (a := EnvS.at k a j + 1) (by omega) (by omega), EnvS.at_step (by omega)]; unfold Env.wt; omega) | exact wrap_le (by omega) (by omega))) .nil))) .nil) (show 0 ≤ a.length by omega)
 ·rintro j hI
  have hI : j ≤ a.length := hI
  have hA9 : a.length ≤ 1048576 := hx.1
  have hb9 := EnvS.bnd (k := k) hx (j := j) (by omega) hk
  have hE9 : j < a.length → (a.getD j default).ints.length ≤ 1048576 ∧ (a.getD j default).arrs.length ≤ 1048576 := fun h => hx.2 _ (getD_mem h)
  refine .seq <| .seq <| .rs fun k4 => .mv rfl <| .mv rfl <| .g (fun _ τ => ⟨_, .len (.no rfl) rfl (z := (a.length : Int)) t51 rfl rfl rfl (.d _ _) (map_len _ _) rfl τ⟩) <| .bi rfl <| .z ?_
  refine .cond (t := decide ((j : Int) < (a.length : Int))) rfl (fun c0 => ?_) (fun c0 => ?_)
  ·have c0 := of_decide_eq_true c0
   refine .skip <| .seq <| .block <| .seq <| .seq <| .rs fun k5 => .mv rfl <| .mv rfl <| .g (fun _ τ => ⟨_, .indexAddr (.no rfl) rfl (j) t51 rfl t55 rfl rfl rfl (.d _ _) rfl rfl rfl (map_get (by omega)) rfl rfl τ⟩) ?_
   refine .g (fun _ τ => ⟨_, .fieldAddr (.no rfl) rfl t55 rfl rfl t4 rfl rfl rfl rfl [] (by simp) (by intro _ _ _ h; cases h) rfl rfl τ⟩) <| .ld t4 rfl (.d _) rfl <| .mv rfl <| .g (fun _ τ => ⟨_, .quoRem (.no rfl) rfl (.inr ⟨rfl, rfl⟩) rfl rfl rfl rfl rfl τ⟩) <| .bi rfl <| .g (fun _ τ => ⟨_, .neB (.no rfl) rfl t4 rfl rfl rfl rfl rfl τ⟩) <| .z ?_
   refine .cond (t := ((a.getD j default).live) != ((Int.tmod (EnvS.at k a j) 3) == 0)) rfl (fun c1 => ?_) (fun c1 => ?_)
   ·have c1 := c1
    refine .seq <| .rs fun k6 => .as rfl <| .z <| .ret ?_
    exact fin0 (.inr rfl) (.one (svI (show (-1) = (EnvS.marks k a) by (rw [EnvS.heldL hm (by omega)] at c1; simp at c1))) .nil) (.dd .nil) rfl
   ·have c1 := c1
    refine .skip <| .seq <| .rs fun k8 => .mv rfl <| .bi rfl <| .as rfl <| .z <| .seq <| .rs fun k9 => ?_
    refine .mv rfl <| .mv rfl <| .g (fun _ τ => ⟨_, .indexAddr (.no rfl) rfl (j) t51 rfl t55 rfl rfl rfl (.d _ _) rfl rfl rfl (map_get (by omega)) rfl rfl τ⟩) <| .g (fun _ τ => ⟨_, .fieldAddr (.no rfl) rfl t55 rfl rfl t53 rfl rfl rfl rfl [] (by simp) (by intro _ _ _ h; cases h) rfl rfl τ⟩) <| .ld t53 rfl (.d _) rfl <| .mv rfl ?_
    refine .c0 (c_heldIntervalS ((a.getD j default).ints) (IntKind.wrap .i64 ((EnvS.at k a j) + 1)) (by first | exact ⟨by rw [wrap_le (a := EnvS.at k a j + 1) (by omega) (by omega)]; omega, by rw [wrap_le (a := EnvS.at k a j + 1) (by omega) (by omega)]; have := hE9 (by omega); omega⟩ | (rw [wrap_le (a := EnvS.at k a j + 1) (by omega) (by omega)]; exact EnvS.heldI hm (by omega)) | (rw [wrap_le (a := EnvS.at k a j + 1) (by omega) (by omega)]; exact EnvS.heldA hm (by omega)) | (rw [wrap_le (a := EnvS.at k a j + 1) (by omega) (by omega)]; have := hE9 (by omega); omega)) (by first | exact ⟨by rw [wrap_le (a := EnvS.at k a j + 1) (by omega) (by omega)]; omega, by rw [wrap_le (a := EnvS.at k a j + 1) (by omega) (by omega)]; have := hE9 (by omega); omega⟩ | (rw [wrap_le (a := EnvS.at k a j + 1) (by omega) (by omega)]; exact EnvS.heldI hm (by omega)) | (rw [wrap_le (a := EnvS.at k a j + 1) (by omega) (by omega)]; exact EnvS.heldA hm (by omega)) | (rw [wrap_le (a := EnvS.at k a j + 1) (by omega) (by omega)]; have := hE9 (by omega); omega))) rfl (.dd (.dd .nil)) (.own [29, 0] .nil) rfl ?_
    refine .as rfl <| .z <| .seq <| .seq <| .rs fun k10 => .mv rfl <| .bi rfl <| .z ?_
    refine .cond (t := decide (((IntKind.wrap .i64 ((EnvS.at k a j) + 1)) + 2 * (((a.getD j default).ints).length : Int)) < 0)) rfl (fun c2 => ?_) (fun c2 => ?_)
    ·have c2 := of_decide_eq_true c2
     refine .seq <| .rs fun k11 => .as rfl <| .z <| .ret ?_
     exact fin0 (.inr rfl) (.one (svI (show (-1) = (EnvS.marks k a) by (rw [wrap_le (a := EnvS.at k a j + 1) (by omega) (by omega)] at c2; omega))) .nil) (.dd .nil) rfl
    ·have c2 := of_decide_eq_false c2
     refine .skip <| .seq <| .rs fun k13 => .mv rfl <| .mv rfl <| .g (fun _ τ => ⟨_, .indexAddr (.no rfl) rfl (j) t51 rfl t55 rfl rfl rfl (.d _ _) rfl rfl rfl (map_get (by omega)) rfl rfl τ⟩) <| .g (fun _ τ => ⟨_, .fieldAddr (.no rfl) rfl t55 rfl rfl t53 rfl rfl rfl rfl [] (by simp) (by intro _ _ _ h; cases h) rfl rfl τ⟩) <| .ld t53 rfl (.d _) rfl <| .mv rfl ?_
     refine .c0 (c_heldIntervalS ((a.getD j default).arrs) ((IntKind.wrap .i64 ((EnvS.at k a j) + 1)) + 2 * (((a.getD j default).ints).length : Int)) (by first | exact ⟨by rw [wrap_le (a := EnvS.at k a j + 1) (by omega) (by omega)]; omega, by rw [wrap_le (a := EnvS.at k a j + 1) (by omega) (by omega)]; have := hE9 (by omega); omega⟩ | (rw [wrap_le (a := EnvS.at k a j + 1) (by omega) (by omega)]; exact EnvS.heldI hm (by omega)) | (rw [wrap_le (a := EnvS.at k a j + 1) (by omega) (by omega)]; exact EnvS.heldA hm (by omega)) | (rw [wrap_le (a := EnvS.at k a j + 1) (by omega) (by omega)]; have := hE9 (by omega); omega)) (by first | exact ⟨by rw [wrap_le (a := EnvS.at k a j + 1) (by omega) (by omega)]; omega, by rw [wrap_le (a := EnvS.at k a j + 1) (by omega) (by omega)]; have := hE9 (by omega); omega⟩ | (rw [wrap_le (a := EnvS.at k a j + 1) (by omega) (by omega)]; exact EnvS.heldI hm (by omega)) | (rw [wrap_le (a := EnvS.at k a j + 1) (by omega) (by omega)]; exact EnvS.heldA hm (by omega)) | (rw [wrap_le (a := EnvS.at k a j + 1) (by omega) (by omega)]; have := hE9 (by omega); omega))) rfl (.dd (.dd .nil)) (.own [38, 0] .nil) rfl ?_
     refine .as rfl <| .z <| .seq <| .rs fun k14 => .mv rfl <| .bi rfl <| .z ?_
     refine .cond (t := decide ((((IntKind.wrap .i64 ((EnvS.at k a j) + 1)) + 2 * (((a.getD j default).ints).length : Int)) + 2 * (((a.getD j default).arrs).length : Int)) < 0)) rfl (fun c3 => ?_) (fun c3 => ?_)
     ·have c3 := of_decide_eq_true c3
      refine .seq <| .rs fun k15 => .as rfl <| .z <| .ret ?_
      exact fin0 (.inr rfl) (.one (svI (show (-1) = (EnvS.marks k a) by (rw [wrap_le (a := EnvS.at k a j + 1) (by omega) (by omega)] at c3; omega))) .nil) (.dd .nil) rfl
     ·have c3 := of_decide_eq_false c3
      refine .skip ?_
      refine .reg (X := Unit) (fun ζ => .of [(0, .one (.d (.sl false 55 3 (List.map Env.c55 (a))))), (1, .one (.d (.v (.int .i64 (((IntKind.wrap .i64 ((EnvS.at k a j) + 1)) + 2 * (((a.getD j default).ints).length : Int)) + 2 * (((a.getD j default).arrs).length : Int)))))), (5, .one (.d (.v (.int .i64 (IntKind.wrap .i64 ((j : Int) + 1))))))] []) [⟨[5], some 10, [], []⟩, ⟨[10], some 11, [], []⟩, ⟨[11], some 5, [], []⟩] (fun k17 => ?_) ?_
      ·skip
       refine .move (.no rfl) rfl rfl rfl rfl <| .bin (.no rfl) rfl rfl rfl rfl rfl rfl <| .assign (.no rfl) rfl rfl rfl rfl ?_
       exact .fin () (.of (.r rfl) .nil)
      intro _
      exact .here (j + 1) (.of (.cons rfl (.cons (svI (show (((IntKind.wrap .i64 ((EnvS.at k a j) + 1)) + 2 * (((a.getD j default).ints).length : Int)) + 2 * (((a.getD j default).arrs).length : Int)) = (EnvS.at k a (j + 1)) by first | rfl | omega | exact (EnvS.at_zero k a).symm | (rw [wrap_le (a := EnvS.at k a j + 1) (by omega) (by omega), EnvS.at_step (by omega)]; unfold Env.wt; omega) | exact wrap_le (by omega) (by omega))) (.cons (svI (show (IntKind.wrap .i64 ((j : Int) + 1)) = (((j + 1) : Int)) by first | rfl | omega | exact (EnvS.at_zero k a).symm | (rw [wrap_le (a := EnvS.at k a j + 1) (by omega) (by omega), EnvS.at_step (by omega)]; unfold Env.wt; omega) | exact wrap_le (by omega) (by omega))) .nil))) .nil) ⟨(show (j + 1) ≤ a.length by omega), (show a.length - (j + 1) < a.length - j by omega)⟩
  ·have c0 := of_decide_eq_false c0
   refine .exit <| .seq <| .rs fun k18 => .mv rfl <| .as rfl <| .z <| .ret ?_
   exact fin0 (.inr rfl) (.one (svI (show (EnvS.at k a j) = (EnvS.marks k a) by exact EnvS.at_all (by omega))) .nil) (.dd .nil) rfl
end Go.Proofs

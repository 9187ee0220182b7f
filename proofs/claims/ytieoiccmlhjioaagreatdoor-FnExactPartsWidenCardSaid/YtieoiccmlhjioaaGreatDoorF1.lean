/- Contracts of the program's functions at this seat, printed by a program of ours and checked by Lean: each under the conditions of its own statement. -/
import Derived.Test.YtieoiccmlhjioaaGreatDoorE4
import Derived.Test.YtieoiccmlhjioaaGreatDoorE5
import Derived.Test.YtieoiccmlhjioaaGreatDoorProg
import Derived.Test.YtieoiccmlhjioaaGreatDoorShelf
set_option linter.all false
set_option linter.unnecessarySimpa false
set_option linter.unusedSectionVars false
set_option linter.unusedSimpArgs false
set_option linter.unusedVariables false
namespace Go.Proofs
open Go Go.Proofs Go.Ev
instance : Lay := ⟨[(0, (List.range 256).map fun c => .v (.int .u8 (if Lib.isSp (UInt8.ofNat c) then 1 else 0)))]⟩

def strc (x : ByteArray) : List D := [.v (.string x)]
theorem strc_e (x : ByteArray) : (strc x).map D.erase = strc x := by simp [strc, D.erase_v]
theorem strc_o (x : ByteArray) : ∀ d ∈ strc x, Owned d := by simp [strc, Owned.v]
def Arr.c (x : Arr) : List D := [.v (.string (x.name)), .v (.int .i64 (x.size))]
theorem Arr.c_o (x : Arr) : ∀ d ∈ Arr.c x, Owned d := by simp [Arr.c, Owned.v]
theorem Arr.c_e (x : Arr) : (Arr.c x).map D.erase = Arr.c x := by simp [Arr.c, D.erase_v]
def Decl.c25 (x : Decl) : List D := [.sl false 9 1 (List.map strc (x.vars)), .sl false 9 1 (List.map strc (x.flags)), .sl false 126 2 (List.map Arr.c (x.arrays))]
theorem Decl.c25_e (x : Decl) : (Decl.c25 x).map D.erase = Decl.c25 x := by simp [Decl.c25, D.erase_v, erase_slo _ _ _ _ _ _ strc_e, erase_slo _ _ _ _ _ _ Arr.c_e]
def Decl.co25 (x : Decl) : List D := [.sl true 9 1 (List.map strc (x.vars)), .sl true 9 1 (List.map strc (x.flags)), .sl true 126 2 (List.map Arr.c (x.arrays))]
theorem Decl.co25_e (x : Decl) : (Decl.co25 x).map D.erase = Decl.c25 x := by simp [Decl.co25, Decl.c25, D.erase_v, erase_slo _ _ _ _ _ _ strc_e, erase_slo _ _ _ _ _ _ Arr.c_e]
theorem Decl.co25_o (x : Decl) : ∀ d ∈ Decl.co25 x, Owned d := by simp [Decl.co25, Owned.v, Owned.map _ _ _ _ strc_o, Owned.map _ _ _ _ Arr.c_o]
def Iv.c (x : Iv) : List D := [.v (.int .i64 (x.lo)), .v (.int .i64 (x.hi))]
theorem Iv.c_o (x : Iv) : ∀ d ∈ Iv.c x, Owned d := by simp [Iv.c, Owned.v]
theorem Iv.c_e (x : Iv) : (Iv.c x).map D.erase = Iv.c x := by simp [Iv.c, D.erase_v]
def Env.c170 (x : Env) : List D := [.v (.bool (x.live)), .sl false 221 2 (List.map Iv.c (x.ints)), .sl false 221 2 (List.map Iv.c (x.arrs))]
theorem Env.c170_e (x : Env) : (Env.c170 x).map D.erase = Env.c170 x := by simp [Env.c170, D.erase_v, erase_slo _ _ _ _ _ _ Iv.c_e]
def Env.co170 (x : Env) : List D := [.v (.bool (x.live)), .sl true 221 2 (List.map Iv.c (x.ints)), .sl true 221 2 (List.map Iv.c (x.arrs))]
theorem Env.co170_e (x : Env) : (Env.co170 x).map D.erase = Env.c170 x := by simp [Env.co170, Env.c170, D.erase_v, erase_slo _ _ _ _ _ _ Iv.c_e]
theorem Env.co170_o (x : Env) : ∀ d ∈ Env.co170 x, Owned d := by simp [Env.co170, Owned.v, Owned.map _ _ _ _ Iv.c_o]
def i64c (x : Int) : List D := [.v (.int .i64 x)]
theorem i64c_e (x : Int) : (i64c x).map D.erase = i64c x := by simp [i64c, D.erase_v]
theorem i64c_o (x : Int) : ∀ d ∈ i64c x, Owned d := by simp [i64c, Owned.v]
def Env.c98 (x : Env) : List D := [.v (.bool (x.live)), .sl false 119 2 (List.map Iv.c (x.ints)), .sl false 119 2 (List.map Iv.c (x.arrs))]
theorem Env.c98_e (x : Env) : (Env.c98 x).map D.erase = Env.c98 x := by simp [Env.c98, D.erase_v, erase_slo _ _ _ _ _ _ Iv.c_e]
def Env.co98 (x : Env) : List D := [.v (.bool (x.live)), .sl true 119 2 (List.map Iv.c (x.ints)), .sl true 119 2 (List.map Iv.c (x.arrs))]
theorem Env.co98_e (x : Env) : (Env.co98 x).map D.erase = Env.c98 x := by simp [Env.co98, Env.c98, D.erase_v, erase_slo _ _ _ _ _ _ Iv.c_e]
theorem Env.co98_o (x : Env) : ∀ d ∈ Env.co98 x, Owned d := by simp [Env.co98, Owned.v, Owned.map _ _ _ _ Iv.c_o]
def Decl.c33 (x : Decl) : List D := [.sl false 9 1 (List.map strc (x.vars)), .sl false 9 1 (List.map strc (x.flags)), .sl false 112 2 (List.map Arr.c (x.arrays))]
theorem Decl.c33_e (x : Decl) : (Decl.c33 x).map D.erase = Decl.c33 x := by simp [Decl.c33, D.erase_v, erase_slo _ _ _ _ _ _ strc_e, erase_slo _ _ _ _ _ _ Arr.c_e]
def Decl.co33 (x : Decl) : List D := [.sl true 9 1 (List.map strc (x.vars)), .sl true 9 1 (List.map strc (x.flags)), .sl true 112 2 (List.map Arr.c (x.arrays))]
theorem Decl.co33_e (x : Decl) : (Decl.co33 x).map D.erase = Decl.c33 x := by simp [Decl.co33, Decl.c33, D.erase_v, erase_slo _ _ _ _ _ _ strc_e, erase_slo _ _ _ _ _ _ Arr.c_e]
theorem Decl.co33_o (x : Decl) : ∀ d ∈ Decl.co33 x, Owned d := by simp [Decl.co33, Owned.v, Owned.map _ _ _ _ strc_o, Owned.map _ _ _ _ Arr.c_o]
def i2 : TI := ⟨.int .i64, 1, 8, [.int .i64 0]⟩
theorem t2 : TyOk Tryz.prog 2 i2 := ⟨Tryz.underlying2, by kernel_rfl⟩
theorem z2 : ZOk Tryz.prog 2 i2 := ⟨t2, rfl⟩
def i4 : TI := ⟨.bool, 1, 1, [.bool false]⟩
theorem t4 : TyOk Tryz.prog 4 i4 := ⟨Tryz.underlying4, by kernel_rfl⟩
theorem z4 : ZOk Tryz.prog 4 i4 := ⟨t4, rfl⟩
def i9 : TI := ⟨.str, 1, 16, [.string .empty]⟩
theorem t9 : TyOk Tryz.prog 9 i9 := ⟨Tryz.underlying9, by kernel_rfl⟩
theorem z9 : ZOk Tryz.prog 9 i9 := ⟨t9, rfl⟩
def i22 : TI := ⟨.sl 9, 1, 24, [.slice none 0 0]⟩
theorem t22 : TyOk Tryz.prog 22 i22 := ⟨Tryz.underlying22, by kernel_rfl⟩
theorem z22 : ZOk Tryz.prog 22 i22 := ⟨t22, rfl⟩
def i23 : TI := ⟨.sl 126, 1, 24, [.slice none 0 0]⟩
theorem t23 : TyOk Tryz.prog 23 i23 := ⟨Tryz.underlying23, by kernel_rfl⟩
theorem z23 : ZOk Tryz.prog 23 i23 := ⟨t23, rfl⟩
def i25 : TI := ⟨.st [(0, 22), (1, 22), (2, 23)], 3, 72, [.slice none 0 0, .slice none 0 0, .slice none 0 0]⟩
theorem t25 : TyOk Tryz.prog 25 i25 := ⟨⟨_, Tryz.underlying25, rfl⟩, by kernel_rfl⟩
theorem z25 : ZOk Tryz.prog 25 i25 := ⟨t25, rfl⟩
theorem p25 : Places Tryz.prog [(0, 22), (1, 22), (2, 23)] [(0, 1), (1, 1), (2, 1)] := by unfold Places; kernel_rfl
def i31 : TI := ⟨.sl 112, 1, 24, [.slice none 0 0]⟩
theorem t31 : TyOk Tryz.prog 31 i31 := ⟨Tryz.underlying31, by kernel_rfl⟩
theorem z31 : ZOk Tryz.prog 31 i31 := ⟨t31, rfl⟩
def i33 : TI := ⟨.st [(0, 22), (1, 22), (2, 31)], 3, 72, [.slice none 0 0, .slice none 0 0, .slice none 0 0]⟩
theorem t33 : TyOk Tryz.prog 33 i33 := ⟨⟨_, Tryz.underlying33, rfl⟩, by kernel_rfl⟩
theorem z33 : ZOk Tryz.prog 33 i33 := ⟨t33, rfl⟩
theorem p33 : Places Tryz.prog [(0, 22), (1, 22), (2, 31)] [(0, 1), (1, 1), (2, 1)] := by unfold Places; kernel_rfl
def i41 : TI := ⟨.sl 2, 1, 24, [.slice none 0 0]⟩
theorem t41 : TyOk Tryz.prog 41 i41 := ⟨Tryz.underlying41, by kernel_rfl⟩
theorem z41 : ZOk Tryz.prog 41 i41 := ⟨t41, rfl⟩
def i96 : TI := ⟨.sl 119, 1, 24, [.slice none 0 0]⟩
theorem t96 : TyOk Tryz.prog 96 i96 := ⟨Tryz.underlying96, by kernel_rfl⟩
theorem z96 : ZOk Tryz.prog 96 i96 := ⟨t96, rfl⟩
def i98 : TI := ⟨.st [(0, 4), (1, 96), (2, 96)], 3, 56, [.bool false, .slice none 0 0, .slice none 0 0]⟩
theorem t98 : TyOk Tryz.prog 98 i98 := ⟨⟨_, Tryz.underlying98, rfl⟩, by kernel_rfl⟩
theorem z98 : ZOk Tryz.prog 98 i98 := ⟨t98, rfl⟩
theorem p98 : Places Tryz.prog [(0, 4), (1, 96), (2, 96)] [(0, 1), (1, 1), (2, 1)] := by unfold Places; kernel_rfl
def i112 : TI := ⟨.st [(0, 9), (1, 2)], 2, 24, [.string .empty, .int .i64 0]⟩
theorem t112 : TyOk Tryz.prog 112 i112 := ⟨⟨_, Tryz.underlying112, rfl⟩, by kernel_rfl⟩
theorem z112 : ZOk Tryz.prog 112 i112 := ⟨t112, rfl⟩
theorem p112 : Places Tryz.prog [(0, 9), (1, 2)] [(0, 1), (1, 1)] := by unfold Places; kernel_rfl
def i119 : TI := ⟨.st [(0, 2), (1, 2)], 2, 16, [.int .i64 0, .int .i64 0]⟩
theorem t119 : TyOk Tryz.prog 119 i119 := ⟨⟨_, Tryz.underlying119, rfl⟩, by kernel_rfl⟩
theorem z119 : ZOk Tryz.prog 119 i119 := ⟨t119, rfl⟩
theorem p119 : Places Tryz.prog [(0, 2), (1, 2)] [(0, 1), (1, 1)] := by unfold Places; kernel_rfl
def i126 : TI := ⟨.st [(0, 9), (1, 2)], 2, 24, [.string .empty, .int .i64 0]⟩
theorem t126 : TyOk Tryz.prog 126 i126 := ⟨⟨_, Tryz.underlying126, rfl⟩, by kernel_rfl⟩
theorem z126 : ZOk Tryz.prog 126 i126 := ⟨t126, rfl⟩
theorem p126 : Places Tryz.prog [(0, 9), (1, 2)] [(0, 1), (1, 1)] := by unfold Places; kernel_rfl
def i168 : TI := ⟨.sl 221, 1, 24, [.slice none 0 0]⟩
theorem t168 : TyOk Tryz.prog 168 i168 := ⟨Tryz.underlying168, by kernel_rfl⟩
theorem z168 : ZOk Tryz.prog 168 i168 := ⟨t168, rfl⟩
def i170 : TI := ⟨.st [(0, 4), (1, 168), (2, 168)], 3, 56, [.bool false, .slice none 0 0, .slice none 0 0]⟩
theorem t170 : TyOk Tryz.prog 170 i170 := ⟨⟨_, Tryz.underlying170, rfl⟩, by kernel_rfl⟩
theorem z170 : ZOk Tryz.prog 170 i170 := ⟨t170, rfl⟩
theorem p170 : Places Tryz.prog [(0, 4), (1, 168), (2, 168)] [(0, 1), (1, 1), (2, 1)] := by unfold Places; kernel_rfl
def i221 : TI := ⟨.st [(0, 2), (1, 2)], 2, 16, [.int .i64 0, .int .i64 0]⟩
theorem t221 : TyOk Tryz.prog 221 i221 := ⟨⟨_, Tryz.underlying221, rfl⟩, by kernel_rfl⟩
theorem z221 : ZOk Tryz.prog 221 i221 := ⟨t221, rfl⟩
theorem p221 : Places Tryz.prog [(0, 2), (1, 2)] [(0, 1), (1, 1)] := by unfold Places; kernel_rfl
theorem c_szStringS (a : List ByteArray) (left : Int) (hl : 0 ≤ left ∧ left ≤ 1048576) (hw : ∀ x ∈ a, 0 ≤ strW x ∧ strW x ≤ 9223372036854775807) : Trip Tryz.prog 38 [(false, 1), (false, 1)] ([.sl false 9 1 (List.map strc (a))] ++ [.v (.int .i64 (left))]) [(false, 1)] [.v (.int .i64 (szL strW a left))] [] := by
 refine Trip.of Tryz.func38 (by decide) (c := _) rfl rfl (Nat.le_of_ble_eq_true rfl) rfl (AftOk.nil _) <| .sl (t := 0) rfl fun hs1l => .seq <| .rs fun k2 => .as rfl <| .z <| .seq <| .rs fun k3 => .mv rfl ?_
 refine .mv rfl <| .g (fun _ τ => ⟨_, .len (.no rfl) rfl (z := (a.length : Int)) t22 rfl rfl rfl (.d _ _) (map_len _ _) rfl τ⟩) <| .bi rfl <| .as rfl <| .z <| .seq <| .seq <| .rs fun k4 => .mv rfl ?_
 refine .bi rfl <| .z ?_
 refine .cond (t := decide ((IntKind.wrap .i64 (left - (a.length : Int))) < 0)) rfl (fun c0 => ?_) (fun c0 => ?_)
 ·have c0 := of_decide_eq_true c0
  refine .seq <| .rs fun k5 => .as rfl <| .z <| .ret ?_
  exact fin0 (.inr rfl) (.one (svI (show (-1) = (szL strW a left) by (rw [wrap_le (by omega) (by omega)] at c0; simp only [szL]; rw [if_pos c0]))) .nil) (.dd .nil) rfl
 ·have c0 := of_decide_eq_false c0
  refine .skip <| .seq <| .seq <| .rs fun k7 => .as rfl <| .z <| .block ?_
  refine .loop (X := Nat × Int) (fun ζ => .of [(0, .one (.d (.sl false 9 1 (List.map strc (a))))), (1, .one (.d (.v (.int .i64 (ζ.2))))), (5, .one (.d (.v (.int .i64 ((ζ.1 : Int))))))] []) (fun ζ => ζ.1 ≤ a.length ∧ 0 ≤ ζ.2 ∧ ζ.2 ≤ 1048576 ∧ ¬ left - a.length < 0 ∧ szGo strW ζ.2 (a.drop ζ.1) = szGo strW (left - a.length) a) (fun ζ => a.length - ζ.1) ?_ ?_
  ·skip
   exact .here (0, (left - a.length)) (.of (.cons rfl (.cons (svI (show (IntKind.wrap .i64 (left - (a.length : Int))) = ((left - a.length)) by first | rfl | omega | exact wrap_le (by omega) (by omega) | (rw [wrap_le (by omega) (by omega)]; omega) | (have hx : 0 ≤ strW (a.getD j default) ∧ strW (a.getD j default) ≤ 9223372036854775807 := hw _ (getD_mem (by omega)); exact wrap_le (a := v - strW (a.getD j default)) (by omega) (by omega)))) (.cons (svI (show (0) = ((0 : Int)) by first | rfl | omega | exact wrap_le (by omega) (by omega) | (rw [wrap_le (by omega) (by omega)]; omega) | (have hx : 0 ≤ strW (a.getD j default) ∧ strW (a.getD j default) ≤ 9223372036854775807 := hw _ (getD_mem (by omega)); exact wrap_le (a := v - strW (a.getD j default)) (by omega) (by omega)))) .nil))) .nil) (show 0 ≤ a.length ∧ 0 ≤ (left - a.length) ∧ (left - a.length) ≤ 1048576 ∧ ¬ left - a.length < 0 ∧ szGo strW (left - a.length) (a.drop 0) = szGo strW (left - a.length) a by (rw [wrap_le (by omega) (by omega)] at c0; exact ⟨by omega, by omega, by omega, c0, by simp⟩))
  ·rintro ⟨j, v⟩ hI
   have hI : j ≤ a.length ∧ 0 ≤ v ∧ v ≤ 1048576 ∧ ¬ left - a.length < 0 ∧ szGo strW v (a.drop j) = szGo strW (left - a.length) a := hI
   dsimp only
   refine .seq <| .seq <| .rs fun k8 => .mv rfl <| .mv rfl <| .g (fun _ τ => ⟨_, .len (.no rfl) rfl (z := (a.length : Int)) t22 rfl rfl rfl (.d _ _) (map_len _ _) rfl τ⟩) <| .bi rfl <| .z ?_
   refine .cond (t := decide ((j : Int) < (a.length : Int))) rfl (fun c1 => ?_) (fun c1 => ?_)
   ·have c1 := of_decide_eq_true c1
    refine .skip <| .seq <| .block <| .seq <| .rs fun k9 => .mv rfl <| .mv rfl <| .mv rfl <| .g (fun _ τ => ⟨_, .indexAddr (.no rfl) rfl (j) t22 rfl t9 rfl rfl rfl (.d _ _) rfl rfl rfl (map_get (by omega)) rfl rfl τ⟩) ?_
    refine .ld t9 rfl (.d _) rfl <| .g (fun _ τ => ⟨_, .lenStr (.no rfl) rfl t9 rfl rfl rfl rfl rfl τ⟩) <| .bi rfl <| .as rfl <| .z <| .seq <| .rs fun k10 => .mv rfl <| .bi rfl ?_
    refine .z ?_
    refine .cond (t := decide ((IntKind.wrap .i64 (v - ((a.getD j default).size : Int))) < 0)) rfl (fun c2 => ?_) (fun c2 => ?_)
    ·have c2 := of_decide_eq_true c2
     refine .seq <| .rs fun k11 => .as rfl <| .z <| .ret ?_
     exact fin0 (.inr rfl) (.one (svI (show (-1) = (szL strW a left) by (have hx : 0 ≤ strW (a.getD j default) ∧ strW (a.getD j default) ≤ 9223372036854775807 := hw _ (getD_mem (by omega)); change IntKind.wrap .i64 (v - strW (a.getD j default)) < 0 at c2; rw [wrap_le (by omega) (by omega)] at c2; simp only [szL]; rw [if_neg hI.2.2.2.1, ← hI.2.2.2.2, szGo_fail (by omega) c2]))) .nil) (.dd .nil) rfl
    ·have c2 := of_decide_eq_false c2
     refine .skip <| .rs fun k13 => .mv rfl <| .bi rfl <| .as rfl <| .z ?_
     exact .here ((j + 1), (v - strW (a.getD j default))) (.of (.cons rfl (.cons (svI (show (IntKind.wrap .i64 (v - ((a.getD j default).size : Int))) = ((v - strW (a.getD j default))) by first | rfl | omega | exact wrap_le (by omega) (by omega) | (rw [wrap_le (by omega) (by omega)]; omega) | (have hx : 0 ≤ strW (a.getD j default) ∧ strW (a.getD j default) ≤ 9223372036854775807 := hw _ (getD_mem (by omega)); exact wrap_le (a := v - strW (a.getD j default)) (by omega) (by omega)))) (.cons (svI (show (IntKind.wrap .i64 ((j : Int) + 1)) = (((j + 1) : Int)) by first | rfl | omega | exact wrap_le (by omega) (by omega) | (rw [wrap_le (by omega) (by omega)]; omega) | (have hx : 0 ≤ strW (a.getD j default) ∧ strW (a.getD j default) ≤ 9223372036854775807 := hw _ (getD_mem (by omega)); exact wrap_le (a := v - strW (a.getD j default)) (by omega) (by omega)))) .nil))) .nil) ⟨(show (j + 1) ≤ a.length ∧ 0 ≤ (v - strW (a.getD j default)) ∧ (v - strW (a.getD j default)) ≤ 1048576 ∧ ¬ left - a.length < 0 ∧ szGo strW (v - strW (a.getD j default)) (a.drop (j + 1)) = szGo strW (left - a.length) a by (have hx : 0 ≤ strW (a.getD j default) ∧ strW (a.getD j default) ≤ 9223372036854775807 := hw _ (getD_mem (by omega)); change ¬ IntKind.wrap .i64 (v - strW (a.getD j default)) < 0 at c2; rw [wrap_le (by omega) (by omega)] at c2; exact ⟨by omega, by omega, by omega, hI.2.2.2.1, by rw [← hI.2.2.2.2]; exact (szGo_step (by omega) c2).symm⟩)), (show a.length - (j + 1) < a.length - j by omega)⟩
   ·have c1 := of_decide_eq_false c1
    refine .exit <| .seq <| .rs fun k14 => .mv rfl <| .as rfl <| .z <| .ret ?_
    exact fin0 (.inr rfl) (.one (svI (show (v) = (szL strW a left) by (simp only [szL]; rw [if_neg hI.2.2.2.1, ← hI.2.2.2.2, szGo_end (by omega)]))) .nil) (.dd .nil) rfl
theorem c_szArr (a : Arr) (left : Int) (hl : 0 ≤ left ∧ left ≤ 1048576) (hw : a.name.size ≤ 9223372036854775807) : Trip Tryz.prog 88 [(true, 2), (false, 1)] (Arr.c a ++ [.v (.int .i64 (left))]) [(false, 1)] [.v (.int .i64 (szA a left))] [] := by
 refine Trip.of Tryz.func88 (by decide) (c := _) rfl rfl (Nat.le_of_ble_eq_true rfl) rfl (AftOk.nil _) <| .seq <| .rs fun k1 => .g (fun _ τ => ⟨_, .box (.no rfl) rfl rfl rfl rfl rfl τ⟩) <| .as rfl <| .z <| .seq <| .rs fun k2 => .mv rfl ?_
 refine .fp t126 t9 rfl <| .ld t9 rfl (.ptr _ _ _ _ _ rfl) rfl <| .g (fun _ τ => ⟨_, .lenStr (.no rfl) rfl t9 rfl rfl rfl rfl rfl τ⟩) <| .bi rfl <| .as rfl <| .z <| .seq <| .seq <| .rs fun k3 => ?_
 refine .mv rfl <| .bi rfl <| .z ?_
 refine .cond (t := decide ((IntKind.wrap .i64 (left - (a.name.size : Int))) < 0)) rfl (fun c0 => ?_) (fun c0 => ?_)
 ·have c0 := of_decide_eq_true c0
  refine .seq <| .rs fun k4 => .as rfl <| .z <| .ret ?_
  exact fin0 (.inr rfl) (.one (svI (show (-1) = (szA a left) by (rw [wrap_le (by omega) (by omega)] at c0; simp only [szA]; rw [if_pos c0]))) .nil) (.dd .nil) rfl
 ·have c0 := of_decide_eq_false c0
  refine .skip <| .seq <| .rs fun k6 => .mv rfl <| .as rfl <| .z <| .ret ?_
  exact fin0 (.inr rfl) (.one (svI (show (IntKind.wrap .i64 (left - (a.name.size : Int))) = (szA a left) by (rw [wrap_le (by omega) (by omega)] at c0 ⊢; simp only [szA]; rw [if_neg c0]))) .nil) (.dd .nil) rfl
theorem c_szArrS (a : List Arr) (left : Int) (hl : 0 ≤ left ∧ left ≤ 1048576) (hw : ∀ x ∈ a, 0 ≤ arrW x ∧ arrW x ≤ 9223372036854775807) : Trip Tryz.prog 39 [(false, 1), (false, 1)] ([.sl false 126 2 (List.map Arr.c (a))] ++ [.v (.int .i64 (left))]) [(false, 1)] [.v (.int .i64 (szL arrW a left))] [] := by
 refine Trip.of Tryz.func39 (by decide) (c := _) rfl rfl (Nat.le_of_ble_eq_true rfl) rfl (AftOk.nil _) <| .sl (t := 0) rfl fun hs1l => .seq <| .rs fun k2 => .as rfl <| .z <| .seq <| .rs fun k3 => .mv rfl ?_
 refine .mv rfl <| .g (fun _ τ => ⟨_, .len (.no rfl) rfl (z := (a.length : Int)) t23 rfl rfl rfl (.d _ _) (map_len _ _) rfl τ⟩) <| .bi rfl <| .as rfl <| .z <| .seq <| .seq <| .rs fun k4 => .mv rfl ?_
 refine .bi rfl <| .z ?_
 refine .cond (t := decide ((IntKind.wrap .i64 (left - (a.length : Int))) < 0)) rfl (fun c0 => ?_) (fun c0 => ?_)
 ·have c0 := of_decide_eq_true c0
  refine .seq <| .rs fun k5 => .as rfl <| .z <| .ret ?_
  exact fin0 (.inr rfl) (.one (svI (show (-1) = (szL arrW a left) by (rw [wrap_le (by omega) (by omega)] at c0; simp only [szL]; rw [if_pos c0]))) .nil) (.dd .nil) rfl
 ·have c0 := of_decide_eq_false c0
  refine .skip <| .seq <| .seq <| .rs fun k7 => .as rfl <| .z <| .block ?_
  refine .loop (X := Nat × Int) (fun ζ => .of [(0, .one (.d (.sl false 126 2 (List.map Arr.c (a))))), (1, .one (.d (.v (.int .i64 (ζ.2))))), (5, .one (.d (.v (.int .i64 ((ζ.1 : Int))))))] []) (fun ζ => ζ.1 ≤ a.length ∧ 0 ≤ ζ.2 ∧ ζ.2 ≤ 1048576 ∧ ¬ left - a.length < 0 ∧ szGo arrW ζ.2 (a.drop ζ.1) = szGo arrW (left - a.length) a) (fun ζ => a.length - ζ.1) ?_ ?_
  ·skip
   exact .here (0, (left - a.length)) (.of (.cons rfl (.cons (svI (show (IntKind.wrap .i64 (left - (a.length : Int))) = ((left - a.length)) by first | rfl | omega | exact wrap_le (by omega) (by omega) | (rw [wrap_le (by omega) (by omega)]; omega) | (rw [szA_neg] at c2; simp only [szA, arrW] at c2 ⊢; rw [if_neg c2]))) (.cons (svI (show (0) = ((0 : Int)) by first | rfl | omega | exact wrap_le (by omega) (by omega) | (rw [wrap_le (by omega) (by omega)]; omega) | (rw [szA_neg] at c2; simp only [szA, arrW] at c2 ⊢; rw [if_neg c2]))) .nil))) .nil) (show 0 ≤ a.length ∧ 0 ≤ (left - a.length) ∧ (left - a.length) ≤ 1048576 ∧ ¬ left - a.length < 0 ∧ szGo arrW (left - a.length) (a.drop 0) = szGo arrW (left - a.length) a by (rw [wrap_le (by omega) (by omega)] at c0; exact ⟨by omega, by omega, by omega, c0, by simp⟩))
  ·rintro ⟨j, v⟩ hI
   have hI : j ≤ a.length ∧ 0 ≤ v ∧ v ≤ 1048576 ∧ ¬ left - a.length < 0 ∧ szGo arrW v (a.drop j) = szGo arrW (left - a.length) a := hI
   dsimp only
   refine .seq <| .seq <| .rs fun k8 => .mv rfl <| .mv rfl <| .g (fun _ τ => ⟨_, .len (.no rfl) rfl (z := (a.length : Int)) t23 rfl rfl rfl (.d _ _) (map_len _ _) rfl τ⟩) <| .bi rfl <| .z ?_
   refine .cond (t := decide ((j : Int) < (a.length : Int))) rfl (fun c1 => ?_) (fun c1 => ?_)
   ·have c1 := of_decide_eq_true c1
    refine .skip <| .seq <| .block <| .seq <| .rs fun k9 => .mv rfl <| .mv rfl <| .g (fun _ τ => ⟨_, .indexAddr (.no rfl) rfl (j) t23 rfl t126 rfl rfl rfl (.d _ _) rfl rfl rfl (map_get (by omega)) rfl rfl τ⟩) <| .lda t126 rfl (.d _) rfl ?_
    refine .mv rfl <| .c0 (c_szArr (a.getD j default) v (by first | exact ⟨hI.2.1, hI.2.2.1⟩ | (have hx := (hw _ (getD_mem (j := j) (by omega))).2; simp only [arrW] at hx; omega)) (by first | exact ⟨hI.2.1, hI.2.2.1⟩ | (have hx := (hw _ (getD_mem (j := j) (by omega))).2; simp only [arrW] at hx; omega))) rfl (.dd (.dd (.dd .nil))) (.own [23, 0] .nil) rfl <| .as rfl <| .z <| .seq <| .rs fun k10 => .mv rfl <| .bi rfl <| .z ?_
    refine .cond (t := decide ((szA (a.getD j default) v) < 0)) rfl (fun c2 => ?_) (fun c2 => ?_)
    ·have c2 := of_decide_eq_true c2
     refine .seq <| .rs fun k11 => .as rfl <| .z <| .ret ?_
     exact fin0 (.inr rfl) (.one (svI (show (-1) = (szL arrW a left) by (rw [szA_neg] at c2; simp only [szL]; rw [if_neg hI.2.2.2.1, ← hI.2.2.2.2, szGo_fail (by omega) c2]))) .nil) (.dd .nil) rfl
    ·have c2 := of_decide_eq_false c2
     refine .skip <| .rs fun k13 => .mv rfl <| .bi rfl <| .as rfl <| .z ?_
     exact .here ((j + 1), (v - arrW (a.getD j default))) (.of (.cons rfl (.cons (svI (show (szA (a.getD j default) v) = ((v - arrW (a.getD j default))) by first | rfl | omega | exact wrap_le (by omega) (by omega) | (rw [wrap_le (by omega) (by omega)]; omega) | (rw [szA_neg] at c2; simp only [szA, arrW] at c2 ⊢; rw [if_neg c2]))) (.cons (svI (show (IntKind.wrap .i64 ((j : Int) + 1)) = (((j + 1) : Int)) by first | rfl | omega | exact wrap_le (by omega) (by omega) | (rw [wrap_le (by omega) (by omega)]; omega) | (rw [szA_neg] at c2; simp only [szA, arrW] at c2 ⊢; rw [if_neg c2]))) .nil))) .nil) ⟨(show (j + 1) ≤ a.length ∧ 0 ≤ (v - arrW (a.getD j default)) ∧ (v - arrW (a.getD j default)) ≤ 1048576 ∧ ¬ left - a.length < 0 ∧ szGo arrW (v - arrW (a.getD j default)) (a.drop (j + 1)) = szGo arrW (left - a.length) a by (have hx : 0 ≤ arrW (a.getD j default) ∧ arrW (a.getD j default) ≤ 9223372036854775807 := hw _ (getD_mem (by omega)); rw [szA_neg] at c2; exact ⟨by omega, by omega, by omega, hI.2.2.2.1, by rw [← hI.2.2.2.2]; exact (szGo_step (by omega) c2).symm⟩)), (show a.length - (j + 1) < a.length - j by omega)⟩
   ·have c1 := of_decide_eq_false c1
    refine .exit <| .seq <| .rs fun k14 => .mv rfl <| .as rfl <| .z <| .ret ?_
    exact fin0 (.inr rfl) (.one (svI (show (v) = (szL arrW a left) by (simp only [szL]; rw [if_neg hI.2.2.2.1, ← hI.2.2.2.2, szGo_end (by omega)]))) .nil) (.dd .nil) rfl
theorem c_szDecl (a : Decl) (left : Int) (hl : 0 ≤ left ∧ left ≤ 1048576) (hv : ∀ x ∈ a.vars, 0 ≤ strW x ∧ strW x ≤ 9223372036854775807) (hf : ∀ x ∈ a.flags, 0 ≤ strW x ∧ strW x ≤ 9223372036854775807) (ha : ∀ x ∈ a.arrays, 0 ≤ arrW x ∧ arrW x ≤ 9223372036854775807) : Trip Tryz.prog 7 [(true, 3), (false, 1)] (Decl.c25 a ++ [.v (.int .i64 (left))]) [(false, 1)] [.v (.int .i64 (szDecl a left))] [] := by
 refine Trip.of Tryz.func7 (by decide) (c := _) rfl rfl (Nat.le_of_ble_eq_true rfl) rfl (AftOk.nil _) <| .sla (t := 0) 0 rfl rfl fun hs1l => .sla (t := 0) 1 rfl rfl fun hs2l => .sla (t := 0) 2 rfl rfl fun hs3l => .seq <| .rs fun k4 => .g (fun _ τ => ⟨_, .box (.no rfl) rfl rfl rfl rfl rfl τ⟩) <| .as rfl <| .z ?_
 refine .seq <| .rs fun k5 => .fp t25 t22 rfl <| .ld t22 rfl (.ptr _ _ _ _ _ rfl) rfl <| .mv rfl <| .c0 (c_szStringS a.vars left (by first | assumption | exact ⟨by omega, szL_le (by omega) ‹_› (by first | omega | exact szL_le (by omega) ‹_› (by omega))⟩) (by first | assumption | exact ⟨by omega, szL_le (by omega) ‹_› (by first | omega | exact szL_le (by omega) ‹_› (by omega))⟩)) rfl (.dd (.dd .nil)) (.own [8, 0] .nil) rfl <| .as rfl <| .z <| .seq ?_
 refine .seq <| .rs fun k6 => .mv rfl <| .bi rfl <| .z ?_
 refine .cond (t := decide ((szL strW a.vars left) < 0)) rfl (fun c0 => ?_) (fun c0 => ?_)
 ·have c0 := of_decide_eq_true c0
  refine .seq <| .rs fun k7 => .as rfl <| .z <| .ret ?_
  exact fin0 (.inr rfl) (.one (svI (show (-1) = (szDecl a left) by (simp only [szDecl]; rw [if_pos c0]))) .nil) (.dd .nil) rfl
 ·have c0 := of_decide_eq_false c0
  refine .skip <| .seq <| .rs fun k9 => .fp t25 t22 rfl <| .ld t22 rfl (.ptr _ _ _ _ _ rfl) rfl <| .mv rfl <| .c0 (c_szStringS a.flags (szL strW a.vars left) (by first | assumption | exact ⟨by omega, szL_le (by omega) ‹_› (by first | omega | exact szL_le (by omega) ‹_› (by omega))⟩) (by first | assumption | exact ⟨by omega, szL_le (by omega) ‹_› (by first | omega | exact szL_le (by omega) ‹_› (by omega))⟩)) rfl (.dd (.dd .nil)) (.own [14, 0] .nil) rfl <| .as rfl <| .z ?_
  refine .seq <| .seq <| .rs fun k10 => .mv rfl <| .bi rfl <| .z ?_
  refine .cond (t := decide ((szL strW a.flags (szL strW a.vars left)) < 0)) rfl (fun c1 => ?_) (fun c1 => ?_)
  ·have c1 := of_decide_eq_true c1
   refine .seq <| .rs fun k11 => .as rfl <| .z <| .ret ?_
   exact fin0 (.inr rfl) (.one (svI (show (-1) = (szDecl a left) by (simp only [szDecl]; rw [if_neg c0, if_pos c1]))) .nil) (.dd .nil) rfl
  ·have c1 := of_decide_eq_false c1
   refine .skip <| .seq <| .rs fun k13 => .fp t25 t23 rfl <| .ld t23 rfl (.ptr _ _ _ _ _ rfl) rfl <| .mv rfl <| .c0 (c_szArrS a.arrays (szL strW a.flags (szL strW a.vars left)) (by first | assumption | exact ⟨by omega, szL_le (by omega) ‹_› (by first | omega | exact szL_le (by omega) ‹_› (by omega))⟩) (by first | assumption | exact ⟨by omega, szL_le (by omega) ‹_› (by first | omega | exact szL_le (by omega) ‹_› (by omega))⟩)) rfl (.dd (.dd .nil)) (.own [20, 0] .nil) rfl <| .as rfl <| .z ?_
   refine .seq <| .seq <| .rs fun k14 => .mv rfl <| .bi rfl <| .z ?_
   refine .cond (t := decide ((szL arrW a.arrays (szL strW a.flags (szL strW a.vars left))) < 0)) rfl (fun c2 => ?_) (fun c2 => ?_)
   ·have c2 := of_decide_eq_true c2
    refine .seq <| .rs fun k15 => .as rfl <| .z <| .ret ?_
    exact fin0 (.inr rfl) (.one (svI (show (-1) = (szDecl a left) by (simp only [szDecl]; rw [if_neg c0, if_neg c1, if_pos c2]))) .nil) (.dd .nil) rfl
   ·have c2 := of_decide_eq_false c2
    refine .skip <| .seq <| .rs fun k17 => .mv rfl <| .as rfl <| .z <| .ret ?_
    exact fin0 (.inr rfl) (.one (svI (show (szL arrW a.arrays (szL strW a.flags (szL strW a.vars left))) = (szDecl a left) by (simp only [szDecl]; rw [if_neg c0, if_neg c1, if_neg c2]))) .nil) (.dd .nil) rfl
theorem c_szIntervalS (a : List Iv) (left : Int) (hl : 0 ≤ left ∧ left ≤ 1048576) : Trip Tryz.prog 184 [(false, 1), (false, 1)] ([.sl false 221 2 (List.map Iv.c (a))] ++ [.v (.int .i64 (left))]) [(false, 1)] [.v (.int .i64 (szIvs a left))] [] := by
 refine Trip.of Tryz.func184 (by decide) (c := _) rfl rfl (Nat.le_of_ble_eq_true rfl) rfl (AftOk.nil _) <| .sl (t := 0) rfl fun hs1l => .seq <| .rs fun k2 => .as rfl <| .z <| .seq <| .rs fun k3 => .mv rfl ?_
 refine .mv rfl <| .g (fun _ τ => ⟨_, .len (.no rfl) rfl (z := (a.length : Int)) t168 rfl rfl rfl (.d _ _) (map_len _ _) rfl τ⟩) <| .bi rfl <| .as rfl <| .z <| .seq <| .seq <| .rs fun k4 => .mv rfl ?_
 refine .bi rfl <| .z ?_
 refine .cond (t := decide ((IntKind.wrap .i64 (left - (a.length : Int))) < 0)) rfl (fun c0 => ?_) (fun c0 => ?_)
 ·have c0 := of_decide_eq_true c0
  refine .seq <| .rs fun k5 => .as rfl <| .z <| .ret ?_
  exact fin0 (.inr rfl) (.one (svI (show (-1) = (szIvs a left) by (rw [wrap_le (by omega) (by omega)] at c0; simp only [szIvs]; rw [if_pos c0]))) .nil) (.dd .nil) rfl
 ·have c0 := of_decide_eq_false c0
  refine .skip <| .seq <| .rs fun k7 => .mv rfl <| .as rfl <| .z <| .ret ?_
  exact fin0 (.inr rfl) (.one (svI (show (IntKind.wrap .i64 (left - (a.length : Int))) = (szIvs a left) by (rw [wrap_le (by omega) (by omega)] at c0 ⊢; simp only [szIvs]; rw [if_neg c0]))) .nil) (.dd .nil) rfl
theorem c_szEnv (a : Env) (left : Int) (hl : 0 ≤ left ∧ left ≤ 1048576) : Trip Tryz.prog 139 [(true, 3), (false, 1)] (Env.c170 a ++ [.v (.int .i64 (left))]) [(false, 1)] [.v (.int .i64 (szEnv a left))] [] := by
 refine Trip.of Tryz.func139 (by decide) (c := _) rfl rfl (Nat.le_of_ble_eq_true rfl) rfl (AftOk.nil _) <| .sla (t := 0) 1 rfl rfl fun hs1l => .sla (t := 0) 2 rfl rfl fun hs2l => .seq <| .rs fun k3 => .g (fun _ τ => ⟨_, .box (.no rfl) rfl rfl rfl rfl rfl τ⟩) <| .as rfl <| .z <| .seq ?_
 refine .rs fun k4 => .fp t170 t168 rfl <| .ld t168 rfl (.ptr _ _ _ _ _ rfl) rfl <| .mv rfl <| .c0 (c_szIntervalS a.ints left (by first | assumption | exact ⟨by omega, szIvs_le (by omega)⟩)) rfl (.dd (.dd .nil)) (.own [8, 0] .nil) rfl <| .as rfl <| .z <| .seq <| .seq ?_
 refine .rs fun k5 => .mv rfl <| .bi rfl <| .z ?_
 refine .cond (t := decide ((szIvs a.ints left) < 0)) rfl (fun c0 => ?_) (fun c0 => ?_)
 ·have c0 := of_decide_eq_true c0
  refine .seq <| .rs fun k6 => .as rfl <| .z <| .ret ?_
  exact fin0 (.inr rfl) (.one (svI (show (-1) = (szEnv a left) by (simp only [szEnv]; rw [if_pos c0]))) .nil) (.dd .nil) rfl
 ·have c0 := of_decide_eq_false c0
  refine .skip <| .seq <| .rs fun k8 => .fp t170 t168 rfl <| .ld t168 rfl (.ptr _ _ _ _ _ rfl) rfl <| .mv rfl <| .c0 (c_szIntervalS a.arrs (szIvs a.ints left) (by first | assumption | exact ⟨by omega, szIvs_le (by omega)⟩)) rfl (.dd (.dd .nil)) (.own [14, 0] .nil) rfl <| .as rfl <| .z ?_
  refine .seq <| .seq <| .rs fun k9 => .mv rfl <| .bi rfl <| .z ?_
  refine .cond (t := decide ((szIvs a.arrs (szIvs a.ints left)) < 0)) rfl (fun c1 => ?_) (fun c1 => ?_)
  ·have c1 := of_decide_eq_true c1
   refine .seq <| .rs fun k10 => .as rfl <| .z <| .ret ?_
   exact fin0 (.inr rfl) (.one (svI (show (-1) = (szEnv a left) by (simp only [szEnv]; rw [if_neg c0, if_pos c1]))) .nil) (.dd .nil) rfl
  ·have c1 := of_decide_eq_false c1
   refine .skip <| .seq <| .rs fun k12 => .mv rfl <| .as rfl <| .z <| .ret ?_
   exact fin0 (.inr rfl) (.one (svI (show (szIvs a.arrs (szIvs a.ints left)) = (szEnv a left) by (simp only [szEnv]; rw [if_neg c0, if_neg c1]))) .nil) (.dd .nil) rfl
theorem c_toInterval (a : Iv) : Trip Tryz.prog 214 [(true, 2)] (Iv.c a) [(true, 2)] [.v (.int .i64 (a.lo)), .v (.int .i64 (a.hi))] [] := by
 refine Trip.of Tryz.func214 (by decide) (c := _) rfl rfl (Nat.le_of_ble_eq_true rfl) rfl (AftOk.nil _) <| .seq <| .rs fun k1 => .g (fun _ τ => ⟨_, .box (.no rfl) rfl rfl rfl rfl rfl τ⟩) <| .g (fun _ τ => ⟨_, .alloc (.no rfl) rfl z119 rfl rfl rfl τ⟩) <| .z <| .seq <| .rs fun k2 => .g (fun _ τ => ⟨_, .alloc (.no rfl) rfl z119 rfl rfl rfl τ⟩) ?_
 refine .z <| .seq <| .rs fun k3 => .fp t221 t2 rfl <| .ld t2 rfl (.ptr _ _ _ _ _ rfl) rfl <| .fp t119 t2 rfl <| .g (fun _ τ => ⟨_, .store (.no rfl) rfl t2 rfl rfl rfl rfl rfl rfl rfl rfl rfl τ⟩) <| .z <| .seq ?_
 refine .rs fun k4 => .fp t221 t2 rfl <| .ld t2 rfl (.ptr _ _ _ _ _ rfl) rfl <| .fp t119 t2 rfl <| .g (fun _ τ => ⟨_, .store (.no rfl) rfl t2 rfl rfl rfl rfl rfl rfl rfl rfl rfl τ⟩) <| .z <| .seq <| .rs fun k5 => .lda t119 rfl (.ptr _ _ _ _ _ rfl) rfl ?_
 refine .g (fun _ τ => ⟨_, .store (.no rfl) rfl t119 rfl rfl rfl rfl rfl rfl rfl rfl rfl τ⟩) <| .z <| .ret ?_
 exact fin0 (.inr rfl) (.cell (cells := [.d (.v (.int .i64 (a.lo))), .d (.v (.int .i64 (a.hi)))]) rfl rfl t119 rfl rfl .nil) (.dd (.dd .nil)) rfl
theorem c_toArr (a : Arr) : Trip Tryz.prog 93 [(true, 2)] (Arr.c a) [(true, 2)] [.v (.string (a.name)), .v (.int .i64 (a.size))] [] := by
 refine Trip.of Tryz.func93 (by decide) (c := _) rfl rfl (Nat.le_of_ble_eq_true rfl) rfl (AftOk.nil _) <| .seq <| .rs fun k1 => .g (fun _ τ => ⟨_, .box (.no rfl) rfl rfl rfl rfl rfl τ⟩) <| .g (fun _ τ => ⟨_, .alloc (.no rfl) rfl z112 rfl rfl rfl τ⟩) <| .z <| .seq <| .rs fun k2 => .g (fun _ τ => ⟨_, .alloc (.no rfl) rfl z112 rfl rfl rfl τ⟩) ?_
 refine .z <| .seq <| .rs fun k3 => .fp t126 t9 rfl <| .ld t9 rfl (.ptr _ _ _ _ _ rfl) rfl <| .fp t112 t9 rfl <| .g (fun _ τ => ⟨_, .store (.no rfl) rfl t9 rfl rfl rfl rfl rfl rfl rfl rfl rfl τ⟩) <| .z <| .seq ?_
 refine .rs fun k4 => .fp t126 t2 rfl <| .ld t2 rfl (.ptr _ _ _ _ _ rfl) rfl <| .fp t112 t2 rfl <| .g (fun _ τ => ⟨_, .store (.no rfl) rfl t2 rfl rfl rfl rfl rfl rfl rfl rfl rfl τ⟩) <| .z <| .seq <| .rs fun k5 => .lda t112 rfl (.ptr _ _ _ _ _ rfl) rfl ?_
 refine .g (fun _ τ => ⟨_, .store (.no rfl) rfl t112 rfl rfl rfl rfl rfl rfl rfl rfl rfl τ⟩) <| .z <| .ret ?_
 exact fin0 (.inr rfl) (.cell (cells := [.d (.v (.string (a.name))), .d (.v (.int .i64 (a.size)))]) rfl rfl t112 rfl rfl .nil) (.dd (.dd .nil)) rfl
theorem c_toIntervalS (a : List Iv) (hb : a.length ≤ 1048576) : Trip Tryz.prog 187 [(false, 1)] ([.sl false 221 2 (List.map Iv.c (a))]) [(false, 1)] [.sl true 119 2 (List.map Iv.c (a))] [] := by
 refine Trip.of Tryz.func187 (by decide) (c := _) rfl rfl (Nat.le_of_ble_eq_true rfl) rfl (AftOk.nil _) <| .sl (t := 0) rfl fun hs1l => .seq <| .rs fun k2 => .as rfl <| .z <| .seq <| .rs fun k3 => .mv rfl ?_
 refine .g (fun _ τ => ⟨_, .len (.no rfl) rfl (z := (a.length : Int)) t168 rfl rfl rfl (.d _ _) (map_len _ _) rfl τ⟩) <| .g (fun _ τ => ⟨_, .makeSlice (.no rfl) rfl (n0 := a.length) (els := List.map Iv.c (List.replicate a.length (Iv.mk 0 0))) t96 rfl z119 rfl rfl rfl rfl rfl (by (simp [i119]; omega)) (by omega) (rep_map _ _ _ rfl) rfl τ⟩) <| .as rfl <| .z <| .seq <| .seq <| .rs fun k4 => .as rfl <| .z ?_
 refine .block ?_
 refine .loop (X := Nat × Nat × Nat) (fun ζ => .of [(0, .one (.d (.sl false 221 2 (List.map Iv.c (a))))), (3, .one (.ref [7] (ζ.2.1))), (4, .one (.d (.v (.int .i64 ((ζ.1 : Int))))))] [([7], (ζ.2.1, ζ.2.2, .row 119 2 (List.map Iv.c (fillTo a (Iv.mk 0 0) ζ.1))))]) (fun ζ => ζ.1 ≤ a.length) (fun ζ => a.length - ζ.1) ?_ ?_
 ·skip
  exact .here (0, (k3 + 1 + 1), (k3 + 1 + 1)) (.of (.cons rfl (.cons (by show SV.one (.ref [7] (k3 + 1 + 1)) = SV.one (.ref [7] ((k3 + 1 + 1))); first | rfl | simp_all) (.cons (svI (show (0) = ((0 : Int)) by first | rfl | omega | exact wrap_le (by omega) (by omega) | (rw [wrap_le (by omega) (by omega)]; omega))) .nil))) (.cons (rowE (show List.map Iv.c (List.replicate a.length (Iv.mk 0 0)) = List.map Iv.c (fillTo a (Iv.mk 0 0) 0) by first | rfl | (rw [fillTo_zero]) | (rw [fillTo_step _ _ _ (by omega) rfl]))) .nil)) (show 0 ≤ a.length by omega)
 ·rintro ⟨j, q5, q6⟩ hI
  have hI : j ≤ a.length := hI
  dsimp only
  refine .seq <| .seq <| .rs fun k7 => .mv rfl <| .mv rfl <| .g (fun _ τ => ⟨_, .len (.no rfl) rfl (z := (a.length : Int)) t168 rfl rfl rfl (.d _ _) (map_len _ _) rfl τ⟩) <| .bi rfl <| .z ?_
  refine .cond (t := decide ((j : Int) < (a.length : Int))) rfl (fun c0 => ?_) (fun c0 => ?_)
  ·have c0 := of_decide_eq_true c0
   refine .skip <| .seq <| .block <| .rs fun k8 => .mv rfl <| .mv rfl <| .mv rfl <| .mv rfl <| .g (fun _ τ => ⟨_, .indexAddr (.no rfl) rfl (j) t168 rfl t221 rfl rfl rfl (.d _ _) rfl rfl rfl (map_get (by first | omega | (rw [fillTo_len]; omega))) rfl rfl τ⟩) ?_
   refine .lda t221 rfl (.d _) rfl <| .c0 (c_toInterval (a.getD j default)) rfl (.dd (.dd .nil)) (.own [20, 0] (.own [20, 1] .nil)) rfl <| .g (fun _ τ => ⟨_, .indexAddr (.no rfl) rfl (j) t96 rfl t119 rfl rfl rfl (.ref _ _ _ _ _ rfl) rfl rfl rfl (map_get (by first | omega | (rw [fillTo_len]; omega))) rfl rfl τ⟩) <| .g (fun _ τ => ⟨_, .storeE (.no rfl) rfl (els' := List.map Iv.c ((fillTo a (Iv.mk 0 0) j).set j (a.getD j default))) t119 rfl rfl rfl rfl (map_get (by first | omega | (rw [fillTo_len]; omega))) rfl rfl (.cons _ _ _ _ _ _ (.d _) (.cons _ _ _ _ _ _ (.d _) .nil)) rfl (Nat.le_of_ble_eq_true rfl) (set_map _ _ _ (a.getD j default) _ rfl) rfl rfl τ⟩) <| .z <| .rs fun k9 => .mv rfl <| .bi rfl <| .as rfl ?_
   refine .z ?_
   exact .here ((j + 1), q5, (k8 + 1 + 1 + 1 + 1 + 1 + 1 + 1 + 1)) (.of (.cons rfl (.cons rfl (.cons (svI (show (IntKind.wrap .i64 ((j : Int) + 1)) = (((j + 1) : Int)) by first | rfl | omega | exact wrap_le (by omega) (by omega) | (rw [wrap_le (by omega) (by omega)]; omega))) .nil))) (.cons (rowE (show List.map Iv.c ((fillTo a (Iv.mk 0 0) j).set j (a.getD j default)) = List.map Iv.c (fillTo a (Iv.mk 0 0) (j + 1)) by first | rfl | (rw [fillTo_zero]) | (rw [fillTo_step _ _ _ (by omega) rfl]))) .nil)) ⟨(show (j + 1) ≤ a.length by omega), (show a.length - (j + 1) < a.length - j by omega)⟩
  ·have c0 := of_decide_eq_false c0
   refine .exit <| .seq <| .rs fun k10 => .mv rfl <| .as rfl <| .z <| .ret ?_
   have e11 : (fillTo a (Iv.mk 0 0) j) = (a) := by (exact fillTo_all _ _ (by omega))
   exact fin1 (.inr rfl) [] [([7], (q5, q6, .row 119 2 (List.map Iv.c (a))))] (.one rfl .nil) (.cons (.ref (.head _)) .nil) rfl rfl (.cons (rowE (congrArg (List.map Iv.c) e11)) .nil)
theorem c_toStringS (a : List ByteArray) (hb : a.length ≤ 1048576) : Trip Tryz.prog 43 [(false, 1)] ([.sl false 9 1 (List.map strc (a))]) [(false, 1)] [.sl true 9 1 (List.map strc (a))] [] := by
 refine Trip.of Tryz.func43 (by decide) (c := _) rfl rfl (Nat.le_of_ble_eq_true rfl) rfl (AftOk.nil _) <| .sl (t := 0) rfl fun hs1l => .seq <| .rs fun k2 => .as rfl <| .z <| .seq <| .rs fun k3 => .mv rfl ?_
 refine .g (fun _ τ => ⟨_, .len (.no rfl) rfl (z := (a.length : Int)) t22 rfl rfl rfl (.d _ _) (map_len _ _) rfl τ⟩) <| .g (fun _ τ => ⟨_, .makeSlice (.no rfl) rfl (n0 := a.length) (els := List.map strc (List.replicate a.length .empty)) t22 rfl z9 rfl rfl rfl rfl rfl (by (simp [i9]; omega)) (by omega) (rep_map _ _ _ rfl) rfl τ⟩) <| .as rfl <| .z <| .seq <| .seq <| .rs fun k4 => .as rfl <| .z ?_
 refine .block ?_
 refine .loop (X := Nat × Nat × Nat) (fun ζ => .of [(0, .one (.d (.sl false 9 1 (List.map strc (a))))), (3, .one (.ref [7] (ζ.2.1))), (4, .one (.d (.v (.int .i64 ((ζ.1 : Int))))))] [([7], (ζ.2.1, ζ.2.2, .row 9 1 (List.map strc (fillTo a (.empty) ζ.1))))]) (fun ζ => ζ.1 ≤ a.length) (fun ζ => a.length - ζ.1) ?_ ?_
 ·skip
  exact .here (0, (k3 + 1 + 1), (k3 + 1 + 1)) (.of (.cons rfl (.cons (by show SV.one (.ref [7] (k3 + 1 + 1)) = SV.one (.ref [7] ((k3 + 1 + 1))); first | rfl | simp_all) (.cons (svI (show (0) = ((0 : Int)) by first | rfl | omega | exact wrap_le (by omega) (by omega) | (rw [wrap_le (by omega) (by omega)]; omega))) .nil))) (.cons (rowE (show List.map strc (List.replicate a.length .empty) = List.map strc (fillTo a (.empty) 0) by first | rfl | (rw [fillTo_zero]) | (rw [fillTo_step _ _ _ (by omega) rfl]))) .nil)) (show 0 ≤ a.length by omega)
 ·rintro ⟨j, q5, q6⟩ hI
  have hI : j ≤ a.length := hI
  dsimp only
  refine .seq <| .seq <| .rs fun k7 => .mv rfl <| .mv rfl <| .g (fun _ τ => ⟨_, .len (.no rfl) rfl (z := (a.length : Int)) t22 rfl rfl rfl (.d _ _) (map_len _ _) rfl τ⟩) <| .bi rfl <| .z ?_
  refine .cond (t := decide ((j : Int) < (a.length : Int))) rfl (fun c0 => ?_) (fun c0 => ?_)
  ·have c0 := of_decide_eq_true c0
   refine .skip <| .seq <| .block <| .rs fun k8 => .mv rfl <| .mv rfl <| .mv rfl <| .mv rfl <| .g (fun _ τ => ⟨_, .indexAddr (.no rfl) rfl (j) t22 rfl t9 rfl rfl rfl (.d _ _) rfl rfl rfl (map_get (by first | omega | (rw [fillTo_len]; omega))) rfl rfl τ⟩) ?_
   refine .ld t9 rfl (.d _) rfl <| .g (fun _ τ => ⟨_, .indexAddr (.no rfl) rfl (j) t22 rfl t9 rfl rfl rfl (.ref _ _ _ _ _ rfl) rfl rfl rfl (map_get (by first | omega | (rw [fillTo_len]; omega))) rfl rfl τ⟩) <| .g (fun _ τ => ⟨_, .storeE (.no rfl) rfl (els' := List.map strc ((fillTo a (.empty) j).set j (a.getD j default))) t9 rfl rfl rfl rfl (map_get (by first | omega | (rw [fillTo_len]; omega))) rfl rfl (.cons _ _ _ _ _ _ (.d _) .nil) rfl (Nat.le_of_ble_eq_true rfl) (set_map _ _ _ (a.getD j default) _ rfl) rfl rfl τ⟩) <| .z <| .rs fun k9 => .mv rfl <| .bi rfl <| .as rfl <| .z ?_
   exact .here ((j + 1), q5, (k8 + 1 + 1 + 1 + 1 + 1 + 1 + 1)) (.of (.cons rfl (.cons rfl (.cons (svI (show (IntKind.wrap .i64 ((j : Int) + 1)) = (((j + 1) : Int)) by first | rfl | omega | exact wrap_le (by omega) (by omega) | (rw [wrap_le (by omega) (by omega)]; omega))) .nil))) (.cons (rowE (show List.map strc ((fillTo a (.empty) j).set j (a.getD j default)) = List.map strc (fillTo a (.empty) (j + 1)) by first | rfl | (rw [fillTo_zero]) | (rw [fillTo_step _ _ _ (by omega) rfl]))) .nil)) ⟨(show (j + 1) ≤ a.length by omega), (show a.length - (j + 1) < a.length - j by omega)⟩
  ·have c0 := of_decide_eq_false c0
   refine .exit <| .seq <| .rs fun k10 => .mv rfl <| .as rfl <| .z <| .ret ?_
   have e11 : (fillTo a (.empty) j) = (a) := by (exact fillTo_all _ _ (by omega))
   exact fin1 (.inr rfl) [] [([7], (q5, q6, .row 9 1 (List.map strc (a))))] (.one rfl .nil) (.cons (.ref (.head _)) .nil) rfl rfl (.cons (rowE (congrArg (List.map strc) e11)) .nil)
theorem c_toInt64S (a : List Int) (hb : a.length ≤ 1048576) : Trip Tryz.prog 19 [(false, 1)] ([.sl false 2 1 (List.map i64c (a))]) [(false, 1)] [.sl true 2 1 (List.map i64c (a))] [] := by
 refine Trip.of Tryz.func19 (by decide) (c := _) rfl rfl (Nat.le_of_ble_eq_true rfl) rfl (AftOk.nil _) <| .sl (t := 0) rfl fun hs1l => .seq <| .rs fun k2 => .as rfl <| .z <| .seq <| .rs fun k3 => .mv rfl ?_
 refine .g (fun _ τ => ⟨_, .len (.no rfl) rfl (z := (a.length : Int)) t41 rfl rfl rfl (.d _ _) (map_len _ _) rfl τ⟩) <| .g (fun _ τ => ⟨_, .makeSlice (.no rfl) rfl (n0 := a.length) (els := List.map i64c (List.replicate a.length 0)) t41 rfl z2 rfl rfl rfl rfl rfl (by (simp [i2]; omega)) (by omega) (rep_map _ _ _ rfl) rfl τ⟩) <| .as rfl <| .z <| .seq <| .seq <| .rs fun k4 => .as rfl <| .z ?_
 refine .block ?_
 refine .loop (X := Nat × Nat × Nat) (fun ζ => .of [(0, .one (.d (.sl false 2 1 (List.map i64c (a))))), (3, .one (.ref [7] (ζ.2.1))), (4, .one (.d (.v (.int .i64 ((ζ.1 : Int))))))] [([7], (ζ.2.1, ζ.2.2, .row 2 1 (List.map i64c (fillTo a (0) ζ.1))))]) (fun ζ => ζ.1 ≤ a.length) (fun ζ => a.length - ζ.1) ?_ ?_
 ·skip
  exact .here (0, (k3 + 1 + 1), (k3 + 1 + 1)) (.of (.cons rfl (.cons (by show SV.one (.ref [7] (k3 + 1 + 1)) = SV.one (.ref [7] ((k3 + 1 + 1))); first | rfl | simp_all) (.cons (svI (show (0) = ((0 : Int)) by first | rfl | omega | exact wrap_le (by omega) (by omega) | (rw [wrap_le (by omega) (by omega)]; omega))) .nil))) (.cons (rowE (show List.map i64c (List.replicate a.length 0) = List.map i64c (fillTo a (0) 0) by first | rfl | (rw [fillTo_zero]) | (rw [fillTo_step _ _ _ (by omega) rfl]))) .nil)) (show 0 ≤ a.length by omega)
 ·rintro ⟨j, q5, q6⟩ hI
  have hI : j ≤ a.length := hI
  dsimp only
  refine .seq <| .seq <| .rs fun k7 => .mv rfl <| .mv rfl <| .g (fun _ τ => ⟨_, .len (.no rfl) rfl (z := (a.length : Int)) t41 rfl rfl rfl (.d _ _) (map_len _ _) rfl τ⟩) <| .bi rfl <| .z ?_
  refine .cond (t := decide ((j : Int) < (a.length : Int))) rfl (fun c0 => ?_) (fun c0 => ?_)
  ·have c0 := of_decide_eq_true c0
   refine .skip <| .seq <| .block <| .rs fun k8 => .mv rfl <| .mv rfl <| .mv rfl <| .mv rfl <| .g (fun _ τ => ⟨_, .indexAddr (.no rfl) rfl (j) t41 rfl t2 rfl rfl rfl (.d _ _) rfl rfl rfl (map_get (by first | omega | (rw [fillTo_len]; omega))) rfl rfl τ⟩) ?_
   refine .ld t2 rfl (.d _) rfl <| .g (fun _ τ => ⟨_, .indexAddr (.no rfl) rfl (j) t41 rfl t2 rfl rfl rfl (.ref _ _ _ _ _ rfl) rfl rfl rfl (map_get (by first | omega | (rw [fillTo_len]; omega))) rfl rfl τ⟩) <| .g (fun _ τ => ⟨_, .storeE (.no rfl) rfl (els' := List.map i64c ((fillTo a (0) j).set j (a.getD j default))) t2 rfl rfl rfl rfl (map_get (by first | omega | (rw [fillTo_len]; omega))) rfl rfl (.cons _ _ _ _ _ _ (.d _) .nil) rfl (Nat.le_of_ble_eq_true rfl) (set_map _ _ _ (a.getD j default) _ rfl) rfl rfl τ⟩) <| .z <| .rs fun k9 => .mv rfl <| .bi rfl <| .as rfl <| .z ?_
   exact .here ((j + 1), q5, (k8 + 1 + 1 + 1 + 1 + 1 + 1 + 1)) (.of (.cons rfl (.cons rfl (.cons (svI (show (IntKind.wrap .i64 ((j : Int) + 1)) = (((j + 1) : Int)) by first | rfl | omega | exact wrap_le (by omega) (by omega) | (rw [wrap_le (by omega) (by omega)]; omega))) .nil))) (.cons (rowE (show List.map i64c ((fillTo a (0) j).set j (a.getD j default)) = List.map i64c (fillTo a (0) (j + 1)) by first | rfl | (rw [fillTo_zero]) | (rw [fillTo_step _ _ _ (by omega) rfl]))) .nil)) ⟨(show (j + 1) ≤ a.length by omega), (show a.length - (j + 1) < a.length - j by omega)⟩
  ·have c0 := of_decide_eq_false c0
   refine .exit <| .seq <| .rs fun k10 => .mv rfl <| .as rfl <| .z <| .ret ?_
   have e11 : (fillTo a (0) j) = (a) := by (exact fillTo_all _ _ (by omega))
   exact fin1 (.inr rfl) [] [([7], (q5, q6, .row 2 1 (List.map i64c (a))))] (.one rfl .nil) (.cons (.ref (.head _)) .nil) rfl rfl (.cons (rowE (congrArg (List.map i64c) e11)) .nil)
theorem c_toArrS (a : List Arr) (hb : a.length ≤ 1048576) : Trip Tryz.prog 44 [(false, 1)] ([.sl false 126 2 (List.map Arr.c (a))]) [(false, 1)] [.sl true 112 2 (List.map Arr.c (a))] [] := by
 refine Trip.of Tryz.func44 (by decide) (c := _) rfl rfl (Nat.le_of_ble_eq_true rfl) rfl (AftOk.nil _) <| .sl (t := 0) rfl fun hs1l => .seq <| .rs fun k2 => .as rfl <| .z <| .seq <| .rs fun k3 => .mv rfl ?_
 refine .g (fun _ τ => ⟨_, .len (.no rfl) rfl (z := (a.length : Int)) t23 rfl rfl rfl (.d _ _) (map_len _ _) rfl τ⟩) <| .g (fun _ τ => ⟨_, .makeSlice (.no rfl) rfl (n0 := a.length) (els := List.map Arr.c (List.replicate a.length (Arr.mk .empty 0))) t31 rfl z112 rfl rfl rfl rfl rfl (by (simp [i112]; omega)) (by omega) (rep_map _ _ _ rfl) rfl τ⟩) <| .as rfl <| .z <| .seq <| .seq <| .rs fun k4 => .as rfl <| .z ?_
 refine .block ?_
 refine .loop (X := Nat × Nat × Nat) (fun ζ => .of [(0, .one (.d (.sl false 126 2 (List.map Arr.c (a))))), (3, .one (.ref [7] (ζ.2.1))), (4, .one (.d (.v (.int .i64 ((ζ.1 : Int))))))] [([7], (ζ.2.1, ζ.2.2, .row 112 2 (List.map Arr.c (fillTo a (Arr.mk .empty 0) ζ.1))))]) (fun ζ => ζ.1 ≤ a.length) (fun ζ => a.length - ζ.1) ?_ ?_
 ·skip
  exact .here (0, (k3 + 1 + 1), (k3 + 1 + 1)) (.of (.cons rfl (.cons (by show SV.one (.ref [7] (k3 + 1 + 1)) = SV.one (.ref [7] ((k3 + 1 + 1))); first | rfl | simp_all) (.cons (svI (show (0) = ((0 : Int)) by first | rfl | omega | exact wrap_le (by omega) (by omega) | (rw [wrap_le (by omega) (by omega)]; omega))) .nil))) (.cons (rowE (show List.map Arr.c (List.replicate a.length (Arr.mk .empty 0)) = List.map Arr.c (fillTo a (Arr.mk .empty 0) 0) by first | rfl | (rw [fillTo_zero]) | (rw [fillTo_step _ _ _ (by omega) rfl]))) .nil)) (show 0 ≤ a.length by omega)
 ·rintro ⟨j, q5, q6⟩ hI
  have hI : j ≤ a.length := hI
  dsimp only
  refine .seq <| .seq <| .rs fun k7 => .mv rfl <| .mv rfl <| .g (fun _ τ => ⟨_, .len (.no rfl) rfl (z := (a.length : Int)) t23 rfl rfl rfl (.d _ _) (map_len _ _) rfl τ⟩) <| .bi rfl <| .z ?_
  refine .cond (t := decide ((j : Int) < (a.length : Int))) rfl (fun c0 => ?_) (fun c0 => ?_)
  ·have c0 := of_decide_eq_true c0
   refine .skip <| .seq <| .block <| .rs fun k8 => .mv rfl <| .mv rfl <| .mv rfl <| .mv rfl <| .g (fun _ τ => ⟨_, .indexAddr (.no rfl) rfl (j) t23 rfl t126 rfl rfl rfl (.d _ _) rfl rfl rfl (map_get (by first | omega | (rw [fillTo_len]; omega))) rfl rfl τ⟩) ?_
   refine .lda t126 rfl (.d _) rfl <| .c0 (c_toArr (a.getD j default)) rfl (.dd (.dd .nil)) (.own [20, 0] (.own [20, 1] .nil)) rfl <| .g (fun _ τ => ⟨_, .indexAddr (.no rfl) rfl (j) t31 rfl t112 rfl rfl rfl (.ref _ _ _ _ _ rfl) rfl rfl rfl (map_get (by first | omega | (rw [fillTo_len]; omega))) rfl rfl τ⟩) <| .g (fun _ τ => ⟨_, .storeE (.no rfl) rfl (els' := List.map Arr.c ((fillTo a (Arr.mk .empty 0) j).set j (a.getD j default))) t112 rfl rfl rfl rfl (map_get (by first | omega | (rw [fillTo_len]; omega))) rfl rfl (.cons _ _ _ _ _ _ (.d _) (.cons _ _ _ _ _ _ (.d _) .nil)) rfl (Nat.le_of_ble_eq_true rfl) (set_map _ _ _ (a.getD j default) _ rfl) rfl rfl τ⟩) <| .z <| .rs fun k9 => .mv rfl <| .bi rfl <| .as rfl ?_
   refine .z ?_
   exact .here ((j + 1), q5, (k8 + 1 + 1 + 1 + 1 + 1 + 1 + 1 + 1)) (.of (.cons rfl (.cons rfl (.cons (svI (show (IntKind.wrap .i64 ((j : Int) + 1)) = (((j + 1) : Int)) by first | rfl | omega | exact wrap_le (by omega) (by omega) | (rw [wrap_le (by omega) (by omega)]; omega))) .nil))) (.cons (rowE (show List.map Arr.c ((fillTo a (Arr.mk .empty 0) j).set j (a.getD j default)) = List.map Arr.c (fillTo a (Arr.mk .empty 0) (j + 1)) by first | rfl | (rw [fillTo_zero]) | (rw [fillTo_step _ _ _ (by omega) rfl]))) .nil)) ⟨(show (j + 1) ≤ a.length by omega), (show a.length - (j + 1) < a.length - j by omega)⟩
  ·have c0 := of_decide_eq_false c0
   refine .exit <| .seq <| .rs fun k10 => .mv rfl <| .as rfl <| .z <| .ret ?_
   have e11 : (fillTo a (Arr.mk .empty 0) j) = (a) := by (exact fillTo_all _ _ (by omega))
   exact fin1 (.inr rfl) [] [([7], (q5, q6, .row 112 2 (List.map Arr.c (a))))] (.one rfl .nil) (.cons (.ref (.head _)) .nil) rfl rfl (.cons (rowE (congrArg (List.map Arr.c) e11)) .nil)
theorem c_toEnv (a : Env) (hb : a.ints.length ≤ 1048576 ∧ a.arrs.length ≤ 1048576) : Trip Tryz.prog 144 [(true, 3)] (Env.c170 a) [(true, 3)] [.v (.bool (a.live)), .sl true 119 2 (List.map Iv.c (a.ints)), .sl true 119 2 (List.map Iv.c (a.arrs))] [] := by
 refine Trip.of Tryz.func144 (by decide) (c := _) rfl rfl (Nat.le_of_ble_eq_true rfl) rfl (AftOk.nil _) <| .sla (t := 0) 1 rfl rfl fun hs1l => .sla (t := 0) 2 rfl rfl fun hs2l => .seq <| .rs fun k3 => .g (fun _ τ => ⟨_, .box (.no rfl) rfl rfl rfl rfl rfl τ⟩) <| .g (fun _ τ => ⟨_, .alloc (.no rfl) rfl z98 rfl rfl rfl τ⟩) <| .z <| .seq ?_
 refine .rs fun k4 => .g (fun _ τ => ⟨_, .alloc (.no rfl) rfl z98 rfl rfl rfl τ⟩) <| .z <| .seq <| .rs fun k5 => .fp t170 t4 rfl <| .ld t4 rfl (.ptr _ _ _ _ _ rfl) rfl <| .fp t98 t4 rfl <| .g (fun _ τ => ⟨_, .store (.no rfl) rfl t4 rfl rfl rfl rfl rfl rfl rfl rfl rfl τ⟩) ?_
 refine .z <| .seq <| .rs fun k6 => .fp t170 t168 rfl <| .ld t168 rfl (.ptr _ _ _ _ _ rfl) rfl <| .c0 (c_toIntervalS a.ints (by omega)) rfl (.dd .nil) (.own [9, 0] .nil) rfl <| .fp t98 t96 rfl <| .g (fun _ τ => ⟨_, .store (.no rfl) rfl t96 rfl rfl rfl rfl rfl rfl rfl rfl rfl τ⟩) <| .z ?_
 refine .seq <| .rs fun k7 => .fp t170 t168 rfl <| .ld t168 rfl (.ptr _ _ _ _ _ rfl) rfl <| .c0 (c_toIntervalS a.arrs (by omega)) rfl (.dd .nil) (.own [13, 0] .nil) rfl <| .fp t98 t96 rfl <| .g (fun _ τ => ⟨_, .store (.no rfl) rfl t96 rfl rfl rfl rfl rfl rfl rfl rfl rfl τ⟩) <| .z <| .seq ?_
 refine .rs fun k8 => .lda t98 rfl (.ptr _ _ _ _ _ rfl) rfl <| .g (fun _ τ => ⟨_, .store (.no rfl) rfl t98 rfl rfl rfl rfl rfl rfl rfl rfl rfl τ⟩) <| .z <| .ret ?_
 exact fin1 (.inr rfl) [] [([9, 0], (k6 + 1 + 1, k6 + 1 + 1, .row 119 2 (List.map Iv.c (a.ints)))), ([13, 0], (k7 + 1 + 1, k7 + 1 + 1, .row 119 2 (List.map Iv.c (a.arrs))))] (.cell (cells := [.d (.v (.bool (a.live))), .ref [9, 0] (k6 + 1 + 1), .ref [13, 0] (k7 + 1 + 1)]) rfl rfl t98 rfl rfl .nil) (.dd (.cons (.ref (.head _)) (.cons (.ref (.tail _ (.head _))) .nil))) rfl rfl (.r rfl)
theorem c_toDecl (a : Decl) (hb : a.vars.length ≤ 1048576 ∧ a.flags.length ≤ 1048576 ∧ a.arrays.length ≤ 1048576) : Trip Tryz.prog 10 [(true, 3)] (Decl.c25 a) [(true, 3)] [.sl true 9 1 (List.map strc (a.vars)), .sl true 9 1 (List.map strc (a.flags)), .sl true 112 2 (List.map Arr.c (a.arrays))] [] := by
 refine Trip.of Tryz.func10 (by decide) (c := _) rfl rfl (Nat.le_of_ble_eq_true rfl) rfl (AftOk.nil _) <| .sla (t := 0) 0 rfl rfl fun hs1l => .sla (t := 0) 1 rfl rfl fun hs2l => .sla (t := 0) 2 rfl rfl fun hs3l => .seq <| .rs fun k4 => .g (fun _ τ => ⟨_, .box (.no rfl) rfl rfl rfl rfl rfl τ⟩) <| .g (fun _ τ => ⟨_, .alloc (.no rfl) rfl z33 rfl rfl rfl τ⟩) <| .z ?_
 refine .seq <| .rs fun k5 => .g (fun _ τ => ⟨_, .alloc (.no rfl) rfl z33 rfl rfl rfl τ⟩) <| .z <| .seq <| .rs fun k6 => .fp t25 t22 rfl <| .ld t22 rfl (.ptr _ _ _ _ _ rfl) rfl <| .c0 (c_toStringS a.vars (by omega)) rfl (.dd .nil) (.own [6, 0] .nil) rfl ?_
 refine .fp t33 t22 rfl <| .g (fun _ τ => ⟨_, .store (.no rfl) rfl t22 rfl rfl rfl rfl rfl rfl rfl rfl rfl τ⟩) <| .z <| .seq <| .rs fun k7 => .fp t25 t22 rfl <| .ld t22 rfl (.ptr _ _ _ _ _ rfl) rfl <| .c0 (c_toStringS a.flags (by omega)) rfl (.dd .nil) (.own [10, 0] .nil) rfl <| .fp t33 t22 rfl ?_
 refine .g (fun _ τ => ⟨_, .store (.no rfl) rfl t22 rfl rfl rfl rfl rfl rfl rfl rfl rfl τ⟩) <| .z <| .seq <| .rs fun k8 => .fp t25 t23 rfl <| .ld t23 rfl (.ptr _ _ _ _ _ rfl) rfl <| .c0 (c_toArrS a.arrays (by omega)) rfl (.dd .nil) (.own [14, 0] .nil) rfl <| .fp t33 t31 rfl <| .g (fun _ τ => ⟨_, .store (.no rfl) rfl t31 rfl rfl rfl rfl rfl rfl rfl rfl rfl τ⟩) ?_
 refine .z <| .seq <| .rs fun k9 => .lda t33 rfl (.ptr _ _ _ _ _ rfl) rfl <| .g (fun _ τ => ⟨_, .store (.no rfl) rfl t33 rfl rfl rfl rfl rfl rfl rfl rfl rfl τ⟩) <| .z <| .ret ?_
 exact fin1 (.inr rfl) [] [([6, 0], (k6 + 1 + 1, k6 + 1 + 1, .row 9 1 (List.map strc (a.vars)))), ([10, 0], (k7 + 1 + 1, k7 + 1 + 1, .row 9 1 (List.map strc (a.flags)))), ([14, 0], (k8 + 1 + 1, k8 + 1 + 1, .row 112 2 (List.map Arr.c (a.arrays))))] (.cell (cells := [.ref [6, 0] (k6 + 1 + 1), .ref [10, 0] (k7 + 1 + 1), .ref [14, 0] (k8 + 1 + 1)]) rfl rfl t33 rfl rfl .nil) (.cons (.ref (.head _)) (.cons (.ref (.tail _ (.head _))) (.cons (.ref (.tail _ (.tail _ (.head _)))) .nil))) rfl rfl (.r rfl)
theorem c_eqInterval (a : Iv) (b : Iv) : Trip Tryz.prog 216 [(true, 2), (true, 2)] (Iv.c a ++ Iv.c b) [(false, 1)] [.v (.bool (Iv.same a b))] [] := by
 refine Trip.of Tryz.func216 (by decide) (c := _) rfl rfl (Nat.le_of_ble_eq_true rfl) rfl (AftOk.nil _) <| .seq <| .rs fun k1 => .g (fun _ τ => ⟨_, .box (.no rfl) rfl rfl rfl rfl rfl τ⟩) <| .g (fun _ τ => ⟨_, .box (.no rfl) rfl rfl rfl rfl rfl τ⟩) <| .as rfl <| .z <| .seq <| .seq ?_
 refine .rs fun k2 => .fp t119 t2 rfl <| .ld t2 rfl (.ptr _ _ _ _ _ rfl) rfl <| .fp t119 t2 rfl <| .ld t2 rfl (.ptr _ _ _ _ _ rfl) rfl <| .bi rfl <| .z ?_
 refine .cond (t := a.lo != b.lo) rfl (fun c0 => ?_) (fun c0 => ?_)
 ·have c0 := (by simpa using c0 : ¬ (a.lo = b.lo))
  refine .seq <| .rs fun k3 => .as rfl <| .z <| .ret ?_
  exact fin0 (.inr rfl) (.one (svB (show (false) = (Iv.same a b) by (simp_all [Iv.same]))) .nil) (.dd .nil) rfl
 ·have c0 := (by simpa using c0 : a.lo = b.lo)
  refine .skip <| .seq <| .seq <| .rs fun k5 => .fp t119 t2 rfl <| .ld t2 rfl (.ptr _ _ _ _ _ rfl) rfl <| .fp t119 t2 rfl <| .ld t2 rfl (.ptr _ _ _ _ _ rfl) rfl <| .bi rfl ?_
  refine .z ?_
  refine .cond (t := a.hi != b.hi) rfl (fun c1 => ?_) (fun c1 => ?_)
  ·have c1 := (by simpa using c1 : ¬ (a.hi = b.hi))
   refine .seq <| .rs fun k6 => .as rfl <| .z <| .ret ?_
   exact fin0 (.inr rfl) (.one (svB (show (false) = (Iv.same a b) by (simp_all [Iv.same]))) .nil) (.dd .nil) rfl
  ·have c1 := (by simpa using c1 : a.hi = b.hi)
   refine .skip <| .seq <| .rs fun k8 => .as rfl <| .z <| .ret ?_
   exact fin0 (.inr rfl) (.one (svB (show (true) = (Iv.same a b) by (simp_all [Iv.same]))) .nil) (.dd .nil) rfl
theorem c_eqArr (a : Arr) (b : Arr) : Trip Tryz.prog 103 [(true, 2), (true, 2)] (Arr.c a ++ Arr.c b) [(false, 1)] [.v (.bool (Arr.same a b))] [] := by
 refine Trip.of Tryz.func103 (by decide) (c := _) rfl rfl (Nat.le_of_ble_eq_true rfl) rfl (AftOk.nil _) <| .seq <| .rs fun k1 => .g (fun _ τ => ⟨_, .box (.no rfl) rfl rfl rfl rfl rfl τ⟩) <| .g (fun _ τ => ⟨_, .box (.no rfl) rfl rfl rfl rfl rfl τ⟩) <| .as rfl <| .z <| .seq <| .seq ?_
 refine .rs fun k2 => .fp t112 t9 rfl <| .ld t9 rfl (.ptr _ _ _ _ _ rfl) rfl <| .fp t112 t9 rfl <| .ld t9 rfl (.ptr _ _ _ _ _ rfl) rfl <| .bi rfl <| .z ?_
 refine .cond (t := !(a.name.toList == b.name.toList)) rfl (fun c0 => ?_) (fun c0 => ?_)
 ·have c0 := (nT eF) c0
  refine .seq <| .rs fun k3 => .as rfl <| .z <| .ret ?_
  exact fin0 (.inr rfl) (.one (svB (show (false) = (Arr.same a b) by (simp_all [Arr.same, strEq]))) .nil) (.dd .nil) rfl
 ·have c0 := (nF eT) c0
  refine .skip <| .seq <| .seq <| .rs fun k5 => .fp t112 t2 rfl <| .ld t2 rfl (.ptr _ _ _ _ _ rfl) rfl <| .fp t112 t2 rfl <| .ld t2 rfl (.ptr _ _ _ _ _ rfl) rfl <| .bi rfl ?_
  refine .z ?_
  refine .cond (t := a.size != b.size) rfl (fun c1 => ?_) (fun c1 => ?_)
  ·have c1 := (by simpa using c1 : ¬ (a.size = b.size))
   refine .seq <| .rs fun k6 => .as rfl <| .z <| .ret ?_
   exact fin0 (.inr rfl) (.one (svB (show (false) = (Arr.same a b) by (simp_all [Arr.same, strEq]))) .nil) (.dd .nil) rfl
  ·have c1 := (by simpa using c1 : a.size = b.size)
   refine .skip <| .seq <| .rs fun k8 => .as rfl <| .z <| .ret ?_
   exact fin0 (.inr rfl) (.one (svB (show (true) = (Arr.same a b) by (simp_all [Arr.same, strEq]))) .nil) (.dd .nil) rfl
theorem c_eqIntervalS (a : List Iv) (b : List Iv) : Trip Tryz.prog 191 [(false, 1), (false, 1)] ([.sl false 119 2 (List.map Iv.c (a))] ++ [.sl false 119 2 (List.map Iv.c (b))]) [(false, 1)] [.v (.bool (all2 Iv.same a b))] [] := by
 refine Trip.of Tryz.func191 (by decide) (c := _) rfl rfl (Nat.le_of_ble_eq_true rfl) rfl (AftOk.nil _) <| .sl (t := 0) rfl fun hs1l => .sl (t := 1) rfl fun hs2l => .seq <| .rs fun k3 => .as rfl <| .z <| .seq <| .seq ?_
 refine .rs fun k4 => .mv rfl <| .g (fun _ τ => ⟨_, .len (.no rfl) rfl (z := (a.length : Int)) t96 rfl rfl rfl (.d _ _) (map_len _ _) rfl τ⟩) <| .mv rfl <| .g (fun _ τ => ⟨_, .len (.no rfl) rfl (z := (b.length : Int)) t96 rfl rfl rfl (.d _ _) (map_len _ _) rfl τ⟩) <| .bi rfl <| .z ?_
 refine .cond (t := (a.length : Int) != (b.length : Int)) rfl (fun c0 => ?_) (fun c0 => ?_)
 ·have c0 := (by simpa using c0 : ¬ ((a.length : Int) = (b.length : Int)))
  refine .seq <| .rs fun k5 => .as rfl <| .z <| .ret ?_
  exact fin0 (.inr rfl) (.one (svB (show (false) = (all2 Iv.same a b) by exact (all2_ne _ c0).symm)) .nil) (.dd .nil) rfl
 ·have c0 := (by simpa using c0 : (a.length : Int) = (b.length : Int))
  refine .skip <| .seq <| .seq <| .rs fun k7 => .as rfl <| .z <| .block ?_
  refine .loop (X := Nat) (fun ζ => .of [(0, .one (.d (.sl false 119 2 (List.map Iv.c (a))))), (1, .one (.d (.sl false 119 2 (List.map Iv.c (b))))), (5, .one (.d (.v (.int .i64 ((ζ : Int))))))] []) (fun ζ => ζ ≤ a.length ∧ a.length = b.length ∧ allTo ζ (fun i => Iv.same (a.getD i default) (b.getD i default)) = true) (fun ζ => a.length - ζ) ?_ ?_
  ·skip
   exact .here 0 (.of (.cons rfl (.cons rfl (.cons (svI (show (0) = ((0 : Int)) by first | rfl | omega | exact wrap_le (by omega) (by omega) | (rw [wrap_le (by omega) (by omega)]; omega))) .nil))) .nil) (show 0 ≤ a.length ∧ a.length = b.length ∧ allTo 0 (fun i => Iv.same (a.getD i default) (b.getD i default)) = true by exact ⟨by omega, by omega, rfl⟩)
  ·rintro j hI
   have hI : j ≤ a.length ∧ a.length = b.length ∧ allTo j (fun i => Iv.same (a.getD i default) (b.getD i default)) = true := hI
   refine .seq <| .seq <| .rs fun k8 => .mv rfl <| .mv rfl <| .g (fun _ τ => ⟨_, .len (.no rfl) rfl (z := (a.length : Int)) t96 rfl rfl rfl (.d _ _) (map_len _ _) rfl τ⟩) <| .bi rfl <| .z ?_
   refine .cond (t := decide ((j : Int) < (a.length : Int))) rfl (fun c1 => ?_) (fun c1 => ?_)
   ·have c1 := of_decide_eq_true c1
    refine .skip <| .seq <| .block <| .seq ?_
    refine .regD (X := Unit) (by kernel_rfl) (fun ζ => .of [(0, .one (.d (.sl false 119 2 (List.map Iv.c (a))))), (1, .one (.d (.sl false 119 2 (List.map Iv.c (b))))), (5, .one (.d (.v (.int .i64 ((j : Int)))))), (26, .one (.d (.v (.bool (!(Iv.same (a.getD j default) (b.getD j default)))))))] []) [⟨[0], some 17, [], []⟩, ⟨[5], some 18, [], []⟩, ⟨[17, 18], some 19, [], []⟩, ⟨[19], some 20, [], []⟩, ⟨[1], some 21, [], []⟩, ⟨[5], some 22, [], []⟩, ⟨[21, 22], some 23, [], []⟩, ⟨[23], some 24, [], []⟩, ⟨[20, 24], some 25, [], []⟩, ⟨[25], some 26, [], []⟩] (by kernel_rfl) (fun k9 => ?_) ?_
    ·skip
     refine .move (.no rfl) rfl rfl rfl rfl <| .move (.no rfl) rfl rfl rfl rfl <| .indexAddr (.no rfl) rfl (j) t96 rfl t119 rfl rfl rfl (.d _ _) rfl rfl rfl (map_get (by omega)) rfl rfl <| .load (.no rfl) rfl t119 rfl rfl (.d _) rfl rfl rfl rfl <| .move (.no rfl) rfl rfl rfl rfl <| .move (.no rfl) rfl rfl rfl rfl <| .indexAddr (.no rfl) rfl (j) t96 rfl t119 rfl rfl rfl (.d _ _) rfl rfl rfl (map_get (by omega)) rfl rfl <| .load (.no rfl) rfl t119 rfl rfl (.d _) rfl rfl rfl rfl <| .call (.no rfl) rfl [] [] (c_eqInterval (a.getD j default) (b.getD j default)) rfl rfl rfl rfl rfl (.dd (.dd (.dd (.dd .nil)))) rfl rfl (fun h => absurd rfl h) (.own [25, 0] .nil) (.nil) rfl rfl rfl (by simp) rfl rfl rfl ?_
     refine .un (.no rfl) rfl rfl rfl rfl rfl ?_
     exact .fin () (.of (.r rfl) .nil)
    intro _
    refine .cond (t := !(Iv.same (a.getD j default) (b.getD j default))) rfl (fun c2 => ?_) (fun c2 => ?_)
    ·have c2 := (nT id) c2
     refine .seq <| .rs fun k10 => .as rfl <| .z <| .ret ?_
     exact fin0 (.inr rfl) (.one (svB (show (false) = (all2 Iv.same a b) by exact (all2_fail _ (j := j) (by omega) (by simpa [] using c2)).symm)) .nil) (.dd .nil) rfl
    ·have c2 := (nF id) c2
     refine .skip <| .rs fun k12 => .mv rfl <| .bi rfl <| .as rfl <| .z ?_
     exact .here (j + 1) (.of (.cons rfl (.cons rfl (.cons (svI (show (IntKind.wrap .i64 ((j : Int) + 1)) = (((j + 1) : Int)) by first | rfl | omega | exact wrap_le (by omega) (by omega) | (rw [wrap_le (by omega) (by omega)]; omega))) .nil))) .nil) ⟨(show (j + 1) ≤ a.length ∧ a.length = b.length ∧ allTo (j + 1) (fun i => Iv.same (a.getD i default) (b.getD i default)) = true by exact ⟨by omega, by omega, allTo_step hI.2.2 (by simpa [] using c2)⟩), (show a.length - (j + 1) < a.length - j by omega)⟩
   ·have c1 := of_decide_eq_false c1
    refine .exit <| .seq <| .rs fun k13 => .as rfl <| .z <| .ret ?_
    exact fin0 (.inr rfl) (.one (svB (show (true) = (all2 Iv.same a b) by (have hj : j = a.length := (by omega); subst hj; exact (all2_done _ hI.2.1 hI.2.2).symm))) .nil) (.dd .nil) rfl
theorem c_eqInt64S (a : List Int) (b : List Int) : Trip Tryz.prog 21 [(false, 1), (false, 1)] ([.sl false 2 1 (List.map i64c (a))] ++ [.sl false 2 1 (List.map i64c (b))]) [(false, 1)] [.v (.bool (all2 intEq a b))] [] := by
 refine Trip.of Tryz.func21 (by decide) (c := _) rfl rfl (Nat.le_of_ble_eq_true rfl) rfl (AftOk.nil _) <| .sl (t := 0) rfl fun hs1l => .sl (t := 1) rfl fun hs2l => .seq <| .rs fun k3 => .as rfl <| .z <| .seq <| .seq ?_
 refine .rs fun k4 => .mv rfl <| .g (fun _ τ => ⟨_, .len (.no rfl) rfl (z := (a.length : Int)) t41 rfl rfl rfl (.d _ _) (map_len _ _) rfl τ⟩) <| .mv rfl <| .g (fun _ τ => ⟨_, .len (.no rfl) rfl (z := (b.length : Int)) t41 rfl rfl rfl (.d _ _) (map_len _ _) rfl τ⟩) <| .bi rfl <| .z ?_
 refine .cond (t := (a.length : Int) != (b.length : Int)) rfl (fun c0 => ?_) (fun c0 => ?_)
 ·have c0 := (by simpa using c0 : ¬ ((a.length : Int) = (b.length : Int)))
  refine .seq <| .rs fun k5 => .as rfl <| .z <| .ret ?_
  exact fin0 (.inr rfl) (.one (svB (show (false) = (all2 intEq a b) by exact (all2_ne _ c0).symm)) .nil) (.dd .nil) rfl
 ·have c0 := (by simpa using c0 : (a.length : Int) = (b.length : Int))
  refine .skip <| .seq <| .seq <| .rs fun k7 => .as rfl <| .z <| .block ?_
  refine .loop (X := Nat) (fun ζ => .of [(0, .one (.d (.sl false 2 1 (List.map i64c (a))))), (1, .one (.d (.sl false 2 1 (List.map i64c (b))))), (5, .one (.d (.v (.int .i64 ((ζ : Int))))))] []) (fun ζ => ζ ≤ a.length ∧ a.length = b.length ∧ allTo ζ (fun i => intEq (a.getD i default) (b.getD i default)) = true) (fun ζ => a.length - ζ) ?_ ?_
  ·skip
   exact .here 0 (.of (.cons rfl (.cons rfl (.cons (svI (show (0) = ((0 : Int)) by first | rfl | omega | exact wrap_le (by omega) (by omega) | (rw [wrap_le (by omega) (by omega)]; omega))) .nil))) .nil) (show 0 ≤ a.length ∧ a.length = b.length ∧ allTo 0 (fun i => intEq (a.getD i default) (b.getD i default)) = true by exact ⟨by omega, by omega, rfl⟩)
  ·rintro j hI
   have hI : j ≤ a.length ∧ a.length = b.length ∧ allTo j (fun i => intEq (a.getD i default) (b.getD i default)) = true := hI
   refine .seq <| .seq <| .rs fun k8 => .mv rfl <| .mv rfl <| .g (fun _ τ => ⟨_, .len (.no rfl) rfl (z := (a.length : Int)) t41 rfl rfl rfl (.d _ _) (map_len _ _) rfl τ⟩) <| .bi rfl <| .z ?_
   refine .cond (t := decide ((j : Int) < (a.length : Int))) rfl (fun c1 => ?_) (fun c1 => ?_)
   ·have c1 := of_decide_eq_true c1
    refine .skip <| .seq <| .block <| .seq ?_
    refine .regD (X := Unit) (by kernel_rfl) (fun ζ => .of [(0, .one (.d (.sl false 2 1 (List.map i64c (a))))), (1, .one (.d (.sl false 2 1 (List.map i64c (b))))), (5, .one (.d (.v (.int .i64 ((j : Int)))))), (25, .one (.d (.v (.bool ((a.getD j default) != (b.getD j default))))))] []) [⟨[0], some 17, [], []⟩, ⟨[5], some 18, [], []⟩, ⟨[17, 18], some 19, [], []⟩, ⟨[19], some 20, [], []⟩, ⟨[1], some 21, [], []⟩, ⟨[5], some 22, [], []⟩, ⟨[21, 22], some 23, [], []⟩, ⟨[23], some 24, [], []⟩, ⟨[20, 24], some 25, [], []⟩] (by kernel_rfl) (fun k9 => ?_) ?_
    ·skip
     refine .move (.no rfl) rfl rfl rfl rfl <| .move (.no rfl) rfl rfl rfl rfl <| .indexAddr (.no rfl) rfl (j) t41 rfl t2 rfl rfl rfl (.d _ _) rfl rfl rfl (map_get (by omega)) rfl rfl <| .load (.no rfl) rfl t2 rfl rfl (.d _) rfl rfl rfl rfl <| .move (.no rfl) rfl rfl rfl rfl <| .move (.no rfl) rfl rfl rfl rfl <| .indexAddr (.no rfl) rfl (j) t41 rfl t2 rfl rfl rfl (.d _ _) rfl rfl rfl (map_get (by omega)) rfl rfl <| .load (.no rfl) rfl t2 rfl rfl (.d _) rfl rfl rfl rfl <| .bin (.no rfl) rfl rfl rfl rfl rfl rfl ?_
     exact .fin () (.of (.r rfl) .nil)
    intro _
    refine .cond (t := (a.getD j default) != (b.getD j default)) rfl (fun c2 => ?_) (fun c2 => ?_)
    ·have c2 := (by simpa using c2 : ¬ ((a.getD j default) = (b.getD j default)))
     refine .seq <| .rs fun k10 => .as rfl <| .z <| .ret ?_
     exact fin0 (.inr rfl) (.one (svB (show (false) = (all2 intEq a b) by exact (all2_fail _ (j := j) (by omega) (by simpa [intEq] using c2)).symm)) .nil) (.dd .nil) rfl
    ·have c2 := (by simpa using c2 : (a.getD j default) = (b.getD j default))
     refine .skip <| .rs fun k12 => .mv rfl <| .bi rfl <| .as rfl <| .z ?_
     exact .here (j + 1) (.of (.cons rfl (.cons rfl (.cons (svI (show (IntKind.wrap .i64 ((j : Int) + 1)) = (((j + 1) : Int)) by first | rfl | omega | exact wrap_le (by omega) (by omega) | (rw [wrap_le (by omega) (by omega)]; omega))) .nil))) .nil) ⟨(show (j + 1) ≤ a.length ∧ a.length = b.length ∧ allTo (j + 1) (fun i => intEq (a.getD i default) (b.getD i default)) = true by exact ⟨by omega, by omega, allTo_step hI.2.2 (by simpa [intEq] using c2)⟩), (show a.length - (j + 1) < a.length - j by omega)⟩
   ·have c1 := of_decide_eq_false c1
    refine .exit <| .seq <| .rs fun k13 => .as rfl <| .z <| .ret ?_
    exact fin0 (.inr rfl) (.one (svB (show (true) = (all2 intEq a b) by (have hj : j = a.length := (by omega); subst hj; exact (all2_done _ hI.2.1 hI.2.2).symm))) .nil) (.dd .nil) rfl
theorem c_eqStringS (a : List ByteArray) (b : List ByteArray) : Trip Tryz.prog 51 [(false, 1), (false, 1)] ([.sl false 9 1 (List.map strc (a))] ++ [.sl false 9 1 (List.map strc (b))]) [(false, 1)] [.v (.bool (all2 strEq a b))] [] := by
 refine Trip.of Tryz.func51 (by decide) (c := _) rfl rfl (Nat.le_of_ble_eq_true rfl) rfl (AftOk.nil _) <| .sl (t := 0) rfl fun hs1l => .sl (t := 1) rfl fun hs2l => .seq <| .rs fun k3 => .as rfl <| .z <| .seq <| .seq ?_
 refine .rs fun k4 => .mv rfl <| .g (fun _ τ => ⟨_, .len (.no rfl) rfl (z := (a.length : Int)) t22 rfl rfl rfl (.d _ _) (map_len _ _) rfl τ⟩) <| .mv rfl <| .g (fun _ τ => ⟨_, .len (.no rfl) rfl (z := (b.length : Int)) t22 rfl rfl rfl (.d _ _) (map_len _ _) rfl τ⟩) <| .bi rfl <| .z ?_
 refine .cond (t := (a.length : Int) != (b.length : Int)) rfl (fun c0 => ?_) (fun c0 => ?_)
 ·have c0 := (by simpa using c0 : ¬ ((a.length : Int) = (b.length : Int)))
  refine .seq <| .rs fun k5 => .as rfl <| .z <| .ret ?_
  exact fin0 (.inr rfl) (.one (svB (show (false) = (all2 strEq a b) by exact (all2_ne _ c0).symm)) .nil) (.dd .nil) rfl
 ·have c0 := (by simpa using c0 : (a.length : Int) = (b.length : Int))
  refine .skip <| .seq <| .seq <| .rs fun k7 => .as rfl <| .z <| .block ?_
  refine .loop (X := Nat) (fun ζ => .of [(0, .one (.d (.sl false 9 1 (List.map strc (a))))), (1, .one (.d (.sl false 9 1 (List.map strc (b))))), (5, .one (.d (.v (.int .i64 ((ζ : Int))))))] []) (fun ζ => ζ ≤ a.length ∧ a.length = b.length ∧ allTo ζ (fun i => strEq (a.getD i default) (b.getD i default)) = true) (fun ζ => a.length - ζ) ?_ ?_
  ·skip
   exact .here 0 (.of (.cons rfl (.cons rfl (.cons (svI (show (0) = ((0 : Int)) by first | rfl | omega | exact wrap_le (by omega) (by omega) | (rw [wrap_le (by omega) (by omega)]; omega))) .nil))) .nil) (show 0 ≤ a.length ∧ a.length = b.length ∧ allTo 0 (fun i => strEq (a.getD i default) (b.getD i default)) = true by exact ⟨by omega, by omega, rfl⟩)
  ·rintro j hI
   have hI : j ≤ a.length ∧ a.length = b.length ∧ allTo j (fun i => strEq (a.getD i default) (b.getD i default)) = true := hI
   refine .seq <| .seq <| .rs fun k8 => .mv rfl <| .mv rfl <| .g (fun _ τ => ⟨_, .len (.no rfl) rfl (z := (a.length : Int)) t22 rfl rfl rfl (.d _ _) (map_len _ _) rfl τ⟩) <| .bi rfl <| .z ?_
   refine .cond (t := decide ((j : Int) < (a.length : Int))) rfl (fun c1 => ?_) (fun c1 => ?_)
   ·have c1 := of_decide_eq_true c1
    refine .skip <| .seq <| .block <| .seq ?_
    refine .regD (X := Unit) (by kernel_rfl) (fun ζ => .of [(0, .one (.d (.sl false 9 1 (List.map strc (a))))), (1, .one (.d (.sl false 9 1 (List.map strc (b))))), (5, .one (.d (.v (.int .i64 ((j : Int)))))), (25, .one (.d (.v (.bool (!((a.getD j default).toList == (b.getD j default).toList))))))] []) [⟨[0], some 17, [], []⟩, ⟨[5], some 18, [], []⟩, ⟨[17, 18], some 19, [], []⟩, ⟨[19], some 20, [], []⟩, ⟨[1], some 21, [], []⟩, ⟨[5], some 22, [], []⟩, ⟨[21, 22], some 23, [], []⟩, ⟨[23], some 24, [], []⟩, ⟨[20, 24], some 25, [], []⟩] (by kernel_rfl) (fun k9 => ?_) ?_
    ·skip
     refine .move (.no rfl) rfl rfl rfl rfl <| .move (.no rfl) rfl rfl rfl rfl <| .indexAddr (.no rfl) rfl (j) t22 rfl t9 rfl rfl rfl (.d _ _) rfl rfl rfl (map_get (by omega)) rfl rfl <| .load (.no rfl) rfl t9 rfl rfl (.d _) rfl rfl rfl rfl <| .move (.no rfl) rfl rfl rfl rfl <| .move (.no rfl) rfl rfl rfl rfl <| .indexAddr (.no rfl) rfl (j) t22 rfl t9 rfl rfl rfl (.d _ _) rfl rfl rfl (map_get (by omega)) rfl rfl <| .load (.no rfl) rfl t9 rfl rfl (.d _) rfl rfl rfl rfl <| .bin (.no rfl) rfl rfl rfl rfl rfl rfl ?_
     exact .fin () (.of (.r rfl) .nil)
    intro _
    refine .cond (t := !((a.getD j default).toList == (b.getD j default).toList)) rfl (fun c2 => ?_) (fun c2 => ?_)
    ·have c2 := (nT eF) c2
     refine .seq <| .rs fun k10 => .as rfl <| .z <| .ret ?_
     exact fin0 (.inr rfl) (.one (svB (show (false) = (all2 strEq a b) by exact (all2_fail _ (j := j) (by omega) (by simpa [strEq] using c2)).symm)) .nil) (.dd .nil) rfl
    ·have c2 := (nF eT) c2
     refine .skip <| .rs fun k12 => .mv rfl <| .bi rfl <| .as rfl <| .z ?_
     exact .here (j + 1) (.of (.cons rfl (.cons rfl (.cons (svI (show (IntKind.wrap .i64 ((j : Int) + 1)) = (((j + 1) : Int)) by first | rfl | omega | exact wrap_le (by omega) (by omega) | (rw [wrap_le (by omega) (by omega)]; omega))) .nil))) .nil) ⟨(show (j + 1) ≤ a.length ∧ a.length = b.length ∧ allTo (j + 1) (fun i => strEq (a.getD i default) (b.getD i default)) = true by exact ⟨by omega, by omega, allTo_step hI.2.2 (by simpa [strEq] using c2)⟩), (show a.length - (j + 1) < a.length - j by omega)⟩
   ·have c1 := of_decide_eq_false c1
    refine .exit <| .seq <| .rs fun k13 => .as rfl <| .z <| .ret ?_
    exact fin0 (.inr rfl) (.one (svB (show (true) = (all2 strEq a b) by (have hj : j = a.length := (by omega); subst hj; exact (all2_done _ hI.2.1 hI.2.2).symm))) .nil) (.dd .nil) rfl
theorem c_eqArrS (a : List Arr) (b : List Arr) : Trip Tryz.prog 52 [(false, 1), (false, 1)] ([.sl false 112 2 (List.map Arr.c (a))] ++ [.sl false 112 2 (List.map Arr.c (b))]) [(false, 1)] [.v (.bool (all2 Arr.same a b))] [] := by
 refine Trip.of Tryz.func52 (by decide) (c := _) rfl rfl (Nat.le_of_ble_eq_true rfl) rfl (AftOk.nil _) <| .sl (t := 0) rfl fun hs1l => .sl (t := 1) rfl fun hs2l => .seq <| .rs fun k3 => .as rfl <| .z <| .seq <| .seq ?_
 refine .rs fun k4 => .mv rfl <| .g (fun _ τ => ⟨_, .len (.no rfl) rfl (z := (a.length : Int)) t31 rfl rfl rfl (.d _ _) (map_len _ _) rfl τ⟩) <| .mv rfl <| .g (fun _ τ => ⟨_, .len (.no rfl) rfl (z := (b.length : Int)) t31 rfl rfl rfl (.d _ _) (map_len _ _) rfl τ⟩) <| .bi rfl <| .z ?_
 refine .cond (t := (a.length : Int) != (b.length : Int)) rfl (fun c0 => ?_) (fun c0 => ?_)
 ·have c0 := (by simpa using c0 : ¬ ((a.length : Int) = (b.length : Int)))
  refine .seq <| .rs fun k5 => .as rfl <| .z <| .ret ?_
  exact fin0 (.inr rfl) (.one (svB (show (false) = (all2 Arr.same a b) by exact (all2_ne _ c0).symm)) .nil) (.dd .nil) rfl
 ·have c0 := (by simpa using c0 : (a.length : Int) = (b.length : Int))
  refine .skip <| .seq <| .seq <| .rs fun k7 => .as rfl <| .z <| .block ?_
  refine .loop (X := Nat) (fun ζ => .of [(0, .one (.d (.sl false 112 2 (List.map Arr.c (a))))), (1, .one (.d (.sl false 112 2 (List.map Arr.c (b))))), (5, .one (.d (.v (.int .i64 ((ζ : Int))))))] []) (fun ζ => ζ ≤ a.length ∧ a.length = b.length ∧ allTo ζ (fun i => Arr.same (a.getD i default) (b.getD i default)) = true) (fun ζ => a.length - ζ) ?_ ?_
  ·skip
   exact .here 0 (.of (.cons rfl (.cons rfl (.cons (svI (show (0) = ((0 : Int)) by first | rfl | omega | exact wrap_le (by omega) (by omega) | (rw [wrap_le (by omega) (by omega)]; omega))) .nil))) .nil) (show 0 ≤ a.length ∧ a.length = b.length ∧ allTo 0 (fun i => Arr.same (a.getD i default) (b.getD i default)) = true by exact ⟨by omega, by omega, rfl⟩)
  ·rintro j hI
   have hI : j ≤ a.length ∧ a.length = b.length ∧ allTo j (fun i => Arr.same (a.getD i default) (b.getD i default)) = true := hI
   refine .seq <| .seq <| .rs fun k8 => .mv rfl <| .mv rfl <| .g (fun _ τ => ⟨_, .len (.no rfl) rfl (z := (a.length : Int)) t31 rfl rfl rfl (.d _ _) (map_len _ _) rfl τ⟩) <| .bi rfl <| .z ?_
   refine .cond (t := decide ((j : Int) < (a.length : Int))) rfl (fun c1 => ?_) (fun c1 => ?_)
   ·have c1 := of_decide_eq_true c1
    refine .skip <| .seq <| .block <| .seq ?_
    refine .regD (X := Unit) (by kernel_rfl) (fun ζ => .of [(0, .one (.d (.sl false 112 2 (List.map Arr.c (a))))), (1, .one (.d (.sl false 112 2 (List.map Arr.c (b))))), (5, .one (.d (.v (.int .i64 ((j : Int)))))), (26, .one (.d (.v (.bool (!(Arr.same (a.getD j default) (b.getD j default)))))))] []) [⟨[0], some 17, [], []⟩, ⟨[5], some 18, [], []⟩, ⟨[17, 18], some 19, [], []⟩, ⟨[19], some 20, [], []⟩, ⟨[1], some 21, [], []⟩, ⟨[5], some 22, [], []⟩, ⟨[21, 22], some 23, [], []⟩, ⟨[23], some 24, [], []⟩, ⟨[20, 24], some 25, [], []⟩, ⟨[25], some 26, [], []⟩] (by kernel_rfl) (fun k9 => ?_) ?_
    ·skip
     refine .move (.no rfl) rfl rfl rfl rfl <| .move (.no rfl) rfl rfl rfl rfl <| .indexAddr (.no rfl) rfl (j) t31 rfl t112 rfl rfl rfl (.d _ _) rfl rfl rfl (map_get (by omega)) rfl rfl <| .load (.no rfl) rfl t112 rfl rfl (.d _) rfl rfl rfl rfl <| .move (.no rfl) rfl rfl rfl rfl <| .move (.no rfl) rfl rfl rfl rfl <| .indexAddr (.no rfl) rfl (j) t31 rfl t112 rfl rfl rfl (.d _ _) rfl rfl rfl (map_get (by omega)) rfl rfl <| .load (.no rfl) rfl t112 rfl rfl (.d _) rfl rfl rfl rfl <| .call (.no rfl) rfl [] [] (c_eqArr (a.getD j default) (b.getD j default)) rfl rfl rfl rfl rfl (.dd (.dd (.dd (.dd .nil)))) rfl rfl (fun h => absurd rfl h) (.own [25, 0] .nil) (.nil) rfl rfl rfl (by simp) rfl rfl rfl ?_
     refine .un (.no rfl) rfl rfl rfl rfl rfl ?_
     exact .fin () (.of (.r rfl) .nil)
    intro _
    refine .cond (t := !(Arr.same (a.getD j default) (b.getD j default))) rfl (fun c2 => ?_) (fun c2 => ?_)
    ·have c2 := (nT id) c2
     refine .seq <| .rs fun k10 => .as rfl <| .z <| .ret ?_
     exact fin0 (.inr rfl) (.one (svB (show (false) = (all2 Arr.same a b) by exact (all2_fail _ (j := j) (by omega) (by simpa [] using c2)).symm)) .nil) (.dd .nil) rfl
    ·have c2 := (nF id) c2
     refine .skip <| .rs fun k12 => .mv rfl <| .bi rfl <| .as rfl <| .z ?_
     exact .here (j + 1) (.of (.cons rfl (.cons rfl (.cons (svI (show (IntKind.wrap .i64 ((j : Int) + 1)) = (((j + 1) : Int)) by first | rfl | omega | exact wrap_le (by omega) (by omega) | (rw [wrap_le (by omega) (by omega)]; omega))) .nil))) .nil) ⟨(show (j + 1) ≤ a.length ∧ a.length = b.length ∧ allTo (j + 1) (fun i => Arr.same (a.getD i default) (b.getD i default)) = true by exact ⟨by omega, by omega, allTo_step hI.2.2 (by simpa [] using c2)⟩), (show a.length - (j + 1) < a.length - j by omega)⟩
   ·have c1 := of_decide_eq_false c1
    refine .exit <| .seq <| .rs fun k13 => .as rfl <| .z <| .ret ?_
    exact fin0 (.inr rfl) (.one (svB (show (true) = (all2 Arr.same a b) by (have hj : j = a.length := (by omega); subst hj; exact (all2_done _ hI.2.1 hI.2.2).symm))) .nil) (.dd .nil) rfl
theorem c_eqEnv (a : Env) (b : Env) : Trip Tryz.prog 152 [(true, 3), (true, 3)] (Env.c98 a ++ Env.c98 b) [(false, 1)] [.v (.bool (Env.same a b))] [] := by
 refine Trip.of Tryz.func152 (by decide) (c := _) rfl rfl (Nat.le_of_ble_eq_true rfl) rfl (AftOk.nil _) <| .sla (t := 0) 1 rfl rfl fun hs1l => .sla (t := 0) 2 rfl rfl fun hs2l => .sla (t := 1) 1 rfl rfl fun hs3l => .sla (t := 1) 2 rfl rfl fun hs4l => .seq <| .rs fun k5 => .g (fun _ τ => ⟨_, .box (.no rfl) rfl rfl rfl rfl rfl τ⟩) <| .g (fun _ τ => ⟨_, .box (.no rfl) rfl rfl rfl rfl rfl τ⟩) ?_
 refine .as rfl <| .z <| .seq <| .seq <| .rs fun k6 => .fp t98 t4 rfl <| .ld t4 rfl (.ptr _ _ _ _ _ rfl) rfl <| .fp t98 t4 rfl <| .ld t4 rfl (.ptr _ _ _ _ _ rfl) rfl ?_
 refine .g (fun _ τ => ⟨_, .neB (.no rfl) rfl t4 rfl rfl rfl rfl rfl τ⟩) <| .z ?_
 refine .cond (t := a.live != b.live) rfl (fun c0 => ?_) (fun c0 => ?_)
 ·have c0 := (by simpa using c0 : ¬ (a.live = b.live))
  refine .seq <| .rs fun k7 => .as rfl <| .z <| .ret ?_
  exact fin0 (.inr rfl) (.one (svB (show (false) = (Env.same a b) by (simp_all [Env.same]))) .nil) (.dd .nil) rfl
 ·have c0 := (by simpa using c0 : a.live = b.live)
  refine .skip <| .seq <| .seq <| .rs fun k9 => .fp t98 t96 rfl <| .ld t96 rfl (.ptr _ _ _ _ _ rfl) rfl <| .fp t98 t96 rfl <| .ld t96 rfl (.ptr _ _ _ _ _ rfl) rfl <| .c0 (c_eqIntervalS a.ints b.ints) rfl (.dd (.dd .nil)) (.own [14, 0] .nil) rfl ?_
  refine .un rfl <| .z ?_
  refine .cond (t := !(all2 Iv.same a.ints b.ints)) rfl (fun c1 => ?_) (fun c1 => ?_)
  ·have c1 := (nT id) c1
   refine .seq <| .rs fun k10 => .as rfl <| .z <| .ret ?_
   exact fin0 (.inr rfl) (.one (svB (show (false) = (Env.same a b) by (simp_all [Env.same]))) .nil) (.dd .nil) rfl
  ·have c1 := (nF id) c1
   refine .skip <| .seq <| .seq <| .rs fun k12 => .fp t98 t96 rfl <| .ld t96 rfl (.ptr _ _ _ _ _ rfl) rfl <| .fp t98 t96 rfl <| .ld t96 rfl (.ptr _ _ _ _ _ rfl) rfl <| .c0 (c_eqIntervalS a.arrs b.arrs) rfl (.dd (.dd .nil)) (.own [20, 0] .nil) rfl ?_
   refine .un rfl <| .z ?_
   refine .cond (t := !(all2 Iv.same a.arrs b.arrs)) rfl (fun c2 => ?_) (fun c2 => ?_)
   ·have c2 := (nT id) c2
    refine .seq <| .rs fun k13 => .as rfl <| .z <| .ret ?_
    exact fin0 (.inr rfl) (.one (svB (show (false) = (Env.same a b) by (simp_all [Env.same]))) .nil) (.dd .nil) rfl
   ·have c2 := (nF id) c2
    refine .skip <| .seq <| .rs fun k15 => .as rfl <| .z <| .ret ?_
    exact fin0 (.inr rfl) (.one (svB (show (true) = (Env.same a b) by (simp_all [Env.same]))) .nil) (.dd .nil) rfl
theorem c_eqDecl (a : Decl) (b : Decl) : Trip Tryz.prog 14 [(true, 3), (true, 3)] (Decl.c33 a ++ Decl.c33 b) [(false, 1)] [.v (.bool (Decl.same a b))] [] := by
 refine Trip.of Tryz.func14 (by decide) (c := _) rfl rfl (Nat.le_of_ble_eq_true rfl) rfl (AftOk.nil _) <| .sla (t := 0) 0 rfl rfl fun hs1l => .sla (t := 0) 1 rfl rfl fun hs2l => .sla (t := 0) 2 rfl rfl fun hs3l => .sla (t := 1) 0 rfl rfl fun hs4l => .sla (t := 1) 1 rfl rfl fun hs5l => .sla (t := 1) 2 rfl rfl fun hs6l => .seq <| .rs fun k7 => ?_
 refine .g (fun _ τ => ⟨_, .box (.no rfl) rfl rfl rfl rfl rfl τ⟩) <| .g (fun _ τ => ⟨_, .box (.no rfl) rfl rfl rfl rfl rfl τ⟩) <| .as rfl <| .z <| .seq <| .seq <| .rs fun k8 => .fp t33 t22 rfl <| .ld t22 rfl (.ptr _ _ _ _ _ rfl) rfl ?_
 refine .fp t33 t22 rfl <| .ld t22 rfl (.ptr _ _ _ _ _ rfl) rfl <| .c0 (c_eqStringS a.vars b.vars) rfl (.dd (.dd .nil)) (.own [9, 0] .nil) rfl <| .un rfl <| .z ?_
 refine .cond (t := !(all2 strEq a.vars b.vars)) rfl (fun c0 => ?_) (fun c0 => ?_)
 ·have c0 := (nT id) c0
  refine .seq <| .rs fun k9 => .as rfl <| .z <| .ret ?_
  exact fin0 (.inr rfl) (.one (svB (show (false) = (Decl.same a b) by (simp_all [Decl.same]))) .nil) (.dd .nil) rfl
 ·have c0 := (nF id) c0
  refine .skip <| .seq <| .seq <| .rs fun k11 => .fp t33 t22 rfl <| .ld t22 rfl (.ptr _ _ _ _ _ rfl) rfl <| .fp t33 t22 rfl <| .ld t22 rfl (.ptr _ _ _ _ _ rfl) rfl <| .c0 (c_eqStringS a.flags b.flags) rfl (.dd (.dd .nil)) (.own [15, 0] .nil) rfl ?_
  refine .un rfl <| .z ?_
  refine .cond (t := !(all2 strEq a.flags b.flags)) rfl (fun c1 => ?_) (fun c1 => ?_)
  ·have c1 := (nT id) c1
   refine .seq <| .rs fun k12 => .as rfl <| .z <| .ret ?_
   exact fin0 (.inr rfl) (.one (svB (show (false) = (Decl.same a b) by (simp_all [Decl.same]))) .nil) (.dd .nil) rfl
  ·have c1 := (nF id) c1
   refine .skip <| .seq <| .seq <| .rs fun k14 => .fp t33 t31 rfl <| .ld t31 rfl (.ptr _ _ _ _ _ rfl) rfl <| .fp t33 t31 rfl <| .ld t31 rfl (.ptr _ _ _ _ _ rfl) rfl <| .c0 (c_eqArrS a.arrays b.arrays) rfl (.dd (.dd .nil)) (.own [21, 0] .nil) rfl ?_
   refine .un rfl <| .z ?_
   refine .cond (t := !(all2 Arr.same a.arrays b.arrays)) rfl (fun c2 => ?_) (fun c2 => ?_)
   ·have c2 := (nT id) c2
    refine .seq <| .rs fun k15 => .as rfl <| .z <| .ret ?_
    exact fin0 (.inr rfl) (.one (svB (show (false) = (Decl.same a b) by (simp_all [Decl.same]))) .nil) (.dd .nil) rfl
   ·have c2 := (nF id) c2
    refine .skip <| .seq <| .rs fun k17 => .as rfl <| .z <| .ret ?_
    exact fin0 (.inr rfl) (.one (svB (show (true) = (Decl.same a b) by (simp_all [Decl.same]))) .nil) (.dd .nil) rfl
end Go.Proofs

namespace Go.Proofs
open Go Go.Proofs Go.Ev

def u8c (x : Int) : List D := [.v (.int .u8 x)]
theorem u8c_e (x : Int) : (u8c x).map D.erase = u8c x := by simp [u8c, D.erase_v]
theorem u8c_o (x : Int) : ∀ d ∈ u8c x, Owned d := by simp [u8c, Owned.v]
def i3 : TI := ⟨.int .i64, 1, 8, [.int .i64 0]⟩
theorem t3 : TyOk Tryz.prog 3 i3 := ⟨Tryz.underlying3, by kernel_rfl⟩
theorem z3 : ZOk Tryz.prog 3 i3 := ⟨t3, rfl⟩
def i5 : TI := ⟨.int .u8, 1, 1, [.int .u8 0]⟩
theorem t5 : TyOk Tryz.prog 5 i5 := ⟨Tryz.underlying5, by kernel_rfl⟩
theorem z5 : ZOk Tryz.prog 5 i5 := ⟨t5, rfl⟩
def i47 : TI := ⟨.sl 5, 1, 24, [.slice none 0 0]⟩
theorem t47 : TyOk Tryz.prog 47 i47 := ⟨Tryz.underlying47, by kernel_rfl⟩
theorem z47 : ZOk Tryz.prog 47 i47 := ⟨t47, rfl⟩
theorem c_markText (k : Int) (hk : k < 4611686018427387904) : Trip Tryz.prog 104 [(false, 1)] ([.v (.int .i64 (k))]) [(false, 1)] [.v (.string (mText k))] [] := by
 refine Trip.of Tryz.func104 (by decide) (c := _) rfl rfl (Nat.le_of_ble_eq_true rfl) rfl (AftOk.nil _) <| .seq <| .rs fun k1 => .as rfl <| .z <| .seq <| .seq <| .rs fun k2 => .mv rfl ?_
 refine .bi rfl <| .z ?_
 refine .cond (t := decide (k ≤ 0)) rfl (fun c0 => ?_) (fun c0 => ?_)
 ·have c0 := of_decide_eq_true c0
  refine .seq <| .rs fun k3 => .as rfl <| .z <| .ret ?_
  exact fin0 (.inr rfl) (.one (svS (show ((⟨#[109, 48]⟩ : ByteArray)) = (mText k) by (simp only [mText]; rw [if_pos c0]))) .nil) (.dd .nil) rfl
 ·have c0 := of_decide_eq_false c0
  refine .skip <| .seq <| .rs fun k5 => .as rfl <| .z <| .seq <| .block ?_
  refine .loop (X := Int × ByteArray) (fun ζ => .of [(0, .one (.d (.v (.int .i64 (ζ.1))))), (3, .one (.d (.v (.string (ζ.2)))))] []) (fun ζ => 0 ≤ ζ.1 ∧ ζ.1 ≤ k ∧ txtGo ζ.1 ζ.2 = txtGo k (⟨#[]⟩ : ByteArray) ∧ (ζ.2.size : Int) + ζ.1 ≤ k) (fun ζ => ζ.1.toNat) ?_ ?_
  ·skip
   exact .here (k, (⟨#[]⟩ : ByteArray)) (.of (.r rfl) .nil) (show 0 ≤ k ∧ k ≤ k ∧ txtGo k (⟨#[]⟩ : ByteArray) = txtGo k (⟨#[]⟩ : ByteArray) ∧ ((⟨#[]⟩ : ByteArray).size : Int) + k ≤ k by exact ⟨by omega, by omega, rfl, by show ((0 : Nat) : Int) + k ≤ k; omega⟩)
  ·rintro ⟨v, u⟩ hI
   have hI : 0 ≤ v ∧ v ≤ k ∧ txtGo v u = txtGo k (⟨#[]⟩ : ByteArray) ∧ (u.size : Int) + v ≤ k := hI
   dsimp only
   refine .seq <| .seq <| .rs fun k6 => .mv rfl <| .bi rfl <| .z ?_
   refine .cond (t := decide (v > 0)) rfl (fun c1 => ?_) (fun c1 => ?_)
   ·have c1 := of_decide_eq_true c1
    refine .skip <| .block <| .seq <| .rs fun k7 => .mv rfl <| .g (fun _ τ => ⟨_, .quoRem (.no rfl) rfl (.inr ⟨rfl, rfl⟩) rfl rfl rfl rfl rfl τ⟩) <| .bi rfl <| .g (fun _ τ => ⟨_, .conv (.no rfl) rfl t3 t5 rfl rfl rfl rfl rfl rfl τ⟩) <| .g (fun _ τ => ⟨_, .buildSlice (.no rfl) rfl (els := [[.v (.int .u8 (IntKind.wrap .u8 (IntKind.wrap .i64 (48 + (Int.tmod v 10)))))]]) t47 rfl z5 rfl rfl rfl rfl rfl rfl rfl rfl (by simp [i5]) (.cons _ _ _ _ _ _ (.d _) .nil) rfl rfl rfl τ⟩) ?_
    refine .g (fun _ τ => ⟨_, .bytesStr (.no rfl) rfl (ns := [IntKind.wrap .u8 (IntKind.wrap .i64 (48 + (Int.tmod v 10)))]) t47 rfl t5 rfl t9 rfl rfl rfl (.ref _ _ _ _ _ rfl) rfl rfl τ⟩) <| .mv rfl <| .g (fun _ τ => ⟨_, .addStr (.no rfl) rfl rfl rfl rfl (by (first | (rw [bytesOf1_size]; omega) | (have : (⟨#[109]⟩ : ByteArray).size = 1 := rfl; omega))) rfl τ⟩) <| .as rfl <| .z <| .rs fun k8 => .mv rfl <| .g (fun _ τ => ⟨_, .quoRem (.no rfl) rfl (.inl ⟨rfl, rfl⟩) rfl rfl rfl rfl rfl τ⟩) <| .as rfl ?_
    refine .z ?_
    exact .here ((Int.tdiv v 10), (bytesOf [digit v] ++ u)) (.of (.cons (svI (show (IntKind.wrap .i64 (Int.tdiv v 10)) = ((Int.tdiv v 10)) by first | rfl | exact wrap_le (by have := tdiv_lt c1; omega) (by have := tdiv_lt c1; omega))) (.cons (svS (show ((bytesOf [IntKind.wrap .u8 (IntKind.wrap .i64 (48 + (Int.tmod v 10)))]) ++ u) = ((bytesOf [digit v] ++ u)) by first | rfl | exact wrap_le (by have := tdiv_lt c1; omega) (by have := tdiv_lt c1; omega))) .nil)) .nil) ⟨(show 0 ≤ (Int.tdiv v 10) ∧ (Int.tdiv v 10) ≤ k ∧ txtGo (Int.tdiv v 10) (bytesOf [digit v] ++ u) = txtGo k (⟨#[]⟩ : ByteArray) ∧ ((bytesOf [digit v] ++ u).size : Int) + (Int.tdiv v 10) ≤ k by (have h9 := tdiv_lt c1; exact ⟨h9.1, by omega, (txtGo_step c1).trans hI.2.2.1, by rw [ByteArray.size_append, bytesOf1_size]; omega⟩)), (show (Int.tdiv v 10).toNat < v.toNat by (have h9 := tdiv_lt c1; omega))⟩
   ·have c1 := of_decide_eq_false c1
    refine .exit <| .seq <| .rs fun k9 => .mv rfl <| .g (fun _ τ => ⟨_, .addStr (.no rfl) rfl rfl rfl rfl (by (first | (rw [bytesOf1_size]; omega) | (have : (⟨#[109]⟩ : ByteArray).size = 1 := rfl; omega))) rfl τ⟩) <| .as rfl <| .z <| .ret ?_
    exact fin0 (.inr rfl) (.one (svS (show ((⟨#[109]⟩ : ByteArray) ++ u) = (mText k) by (simp only [mText]; rw [if_neg c0, ← hI.2.2.1, txtGo_end c1]))) .nil) (.dd .nil) rfl
theorem c_markStringS (a : List ByteArray) (k : Int) (hk : 0 ≤ k ∧ k + 2 * (a.length : Int) < 4611686018427387904) : Trip Tryz.prog 53 [(false, 1), (false, 1)] ([.sl true 9 1 (List.map strc (a))] ++ [.v (.int .i64 (k))]) [(false, 1)] [.v (.int .i64 (k + (a.length : Int)))] [(0, .sl true 9 1 (List.map strc (mkAll (mStr k) a)))] := by
 refine Trip.of Tryz.func53 (by decide) (c := _) rfl rfl (Nat.le_of_ble_eq_true rfl) rfl (AftOk.sl rfl (AftOk.nil _)) <| .seq <| .rs fun k1 => .as rfl <| .z <| .seq <| .seq <| .rs fun k2 => .as rfl ?_
 refine .z <| .block ?_
 refine .loop (X := Nat × Nat) (fun ζ => .of [(0, .one (.ref [0, 0, 0] (0))), (1, .one (.d (.v (.int .i64 (k + (ζ.1 : Int)))))), (5, .one (.d (.v (.int .i64 ((ζ.1 : Int))))))] [([0, 0, 0], (0, ζ.2, .row 9 1 (List.map strc (mkTo (mStr k) a ζ.1))))]) (fun ζ => ζ.1 ≤ a.length) (fun ζ => a.length - ζ.1) ?_ ?_
 ·skip
  exact .here (0, 0) (.of (.cons rfl (.cons (svI (show (k) = (k + (0 : Int)) by first | omega | exact wrap_le (by omega) (by omega) | (rw [wrap_le (by omega) (by omega)]; omega) | (rw [wrap_le (a := k + 2 * (j : Int) + 1) (by omega) (by omega), wrap_le (by omega) (by omega)]; omega))) (.cons (svI (show (0) = ((0 : Int)) by first | omega | exact wrap_le (by omega) (by omega) | (rw [wrap_le (by omega) (by omega)]; omega) | (rw [wrap_le (a := k + 2 * (j : Int) + 1) (by omega) (by omega), wrap_le (by omega) (by omega)]; omega))) .nil))) (.cons (rowE (show List.map strc (a) = List.map strc (mkTo (mStr k) a 0) by first | (rw [← mkTo_zero]) | (rw [mkTo_step (x := mText (k + j)) (mStr k) a (by omega) rfl]))) .nil)) (show 0 ≤ a.length by omega)
 ·rintro ⟨j, q3⟩ hI
  have hI : j ≤ a.length := hI
  have hL : (mkTo (mStr k) a j).length = a.length := mkTo_len _ _ _
  dsimp only
  refine .seq <| .seq <| .rs fun k4 => .mv rfl <| .mv rfl <| .g (fun _ τ => ⟨_, .len (.no rfl) rfl (z := ((mkTo (mStr k) a j).length : Int)) t22 rfl rfl rfl (.ref _ _ _ _ _ rfl) (map_len _ _) rfl τ⟩) <| .bi rfl <| .z ?_
  refine .cond (t := decide ((j : Int) < ((mkTo (mStr k) a j).length : Int))) rfl (fun c0 => ?_) (fun c0 => ?_)
  ·have c0 := of_decide_eq_true c0
   refine .skip <| .seq <| .block <| .seq <| .rs fun k5 => .mv rfl <| .mv rfl <| .mv rfl <| .c0 (c_markText (k + (j : Int)) (by omega)) rfl (.dd .nil) (.own [15, 0] .nil) rfl ?_
   refine .g (fun _ τ => ⟨_, .indexAddr (.no rfl) rfl (j) t22 rfl t9 rfl rfl rfl (.ref _ _ _ _ _ rfl) rfl rfl rfl (map_get (by first | omega | (rw [List.length_set]; omega))) rfl rfl τ⟩) <| .g (fun _ τ => ⟨_, .storeE (.no rfl) rfl (els' := List.map strc ((mkTo (mStr k) a j).set j (mText (k + (j : Int))))) t9 rfl rfl rfl rfl (map_get (by first | omega | (rw [List.length_set]; omega))) rfl rfl (.cons _ _ _ _ _ _ (.d _) .nil) rfl (Nat.le_of_ble_eq_true rfl) (set_map _ _ _ (mText (k + (j : Int))) _ rfl) rfl rfl τ⟩) <| .z <| .rs fun k6 => .mv rfl <| .bi rfl <| .as rfl <| .z <| .rs fun k7 => ?_
   refine .mv rfl <| .bi rfl <| .as rfl <| .z ?_
   exact .here ((j + 1), (k5 + 1 + 1 + 1 + 1 + 1)) (.of (.cons rfl (.cons (svI (show (IntKind.wrap .i64 ((k + (j : Int)) + 1)) = (k + ((j + 1) : Int)) by first | omega | exact wrap_le (by omega) (by omega) | (rw [wrap_le (by omega) (by omega)]; omega) | (rw [wrap_le (a := k + 2 * (j : Int) + 1) (by omega) (by omega), wrap_le (by omega) (by omega)]; omega))) (.cons (svI (show (IntKind.wrap .i64 ((j : Int) + 1)) = (((j + 1) : Int)) by first | omega | exact wrap_le (by omega) (by omega) | (rw [wrap_le (by omega) (by omega)]; omega) | (rw [wrap_le (a := k + 2 * (j : Int) + 1) (by omega) (by omega), wrap_le (by omega) (by omega)]; omega))) .nil))) (.cons (rowE (show List.map strc ((mkTo (mStr k) a j).set j (mText (k + (j : Int)))) = List.map strc (mkTo (mStr k) a (j + 1)) by first | (rw [← mkTo_zero]) | (rw [mkTo_step (x := mText (k + j)) (mStr k) a (by omega) rfl]))) .nil)) ⟨(show (j + 1) ≤ a.length by omega), (show a.length - (j + 1) < a.length - j by omega)⟩
  ·have c0 := of_decide_eq_false c0
   refine .exit <| .seq <| .rs fun k8 => .mv rfl <| .as rfl <| .z <| .ret ?_
   have e10 : (mkTo (mStr k) a j) = (mkAll (mStr k) a) := by first | omega | exact mkTo_all _ _ hI (by omega)
   exact fin1 (.inr rfl) [] [([0, 0, 0], (0, q3, .row 9 1 (List.map strc (mkAll (mStr k) a))))] (.one (svI (show (k + (j : Int)) = (k + (a.length : Int)) by first | omega | exact mkTo_all _ _ hI (by omega))) .nil) (.dd (.cons (.ref (.head _)) .nil)) rfl rfl (.cons (rowE (congrArg (List.map strc) e10)) .nil)
theorem c_markInt64S (a : List Int) (k : Int) (hk : 0 ≤ k ∧ k + 2 * (a.length : Int) < 4611686018427387904) : Trip Tryz.prog 22 [(false, 1), (false, 1)] ([.sl true 2 1 (List.map i64c (a))] ++ [.v (.int .i64 (k))]) [(false, 1)] [.v (.int .i64 (k + (a.length : Int)))] [(0, .sl true 2 1 (List.map i64c (mkAll (mInt k) a)))] := by
 refine Trip.of Tryz.func22 (by decide) (c := _) rfl rfl (Nat.le_of_ble_eq_true rfl) rfl (AftOk.sl rfl (AftOk.nil _)) <| .seq <| .rs fun k1 => .as rfl <| .z <| .seq <| .seq <| .rs fun k2 => .as rfl ?_
 refine .z <| .block ?_
 refine .loop (X := Nat × Nat) (fun ζ => .of [(0, .one (.ref [0, 0, 0] (0))), (1, .one (.d (.v (.int .i64 (k + (ζ.1 : Int)))))), (5, .one (.d (.v (.int .i64 ((ζ.1 : Int))))))] [([0, 0, 0], (0, ζ.2, .row 2 1 (List.map i64c (mkTo (mInt k) a ζ.1))))]) (fun ζ => ζ.1 ≤ a.length) (fun ζ => a.length - ζ.1) ?_ ?_
 ·skip
  exact .here (0, 0) (.of (.cons rfl (.cons (svI (show (k) = (k + (0 : Int)) by first | omega | exact wrap_le (by omega) (by omega) | (rw [wrap_le (by omega) (by omega)]; omega) | (rw [wrap_le (a := k + 2 * (j : Int) + 1) (by omega) (by omega), wrap_le (by omega) (by omega)]; omega))) (.cons (svI (show (0) = ((0 : Int)) by first | omega | exact wrap_le (by omega) (by omega) | (rw [wrap_le (by omega) (by omega)]; omega) | (rw [wrap_le (a := k + 2 * (j : Int) + 1) (by omega) (by omega), wrap_le (by omega) (by omega)]; omega))) .nil))) (.cons (rowE (show List.map i64c (a) = List.map i64c (mkTo (mInt k) a 0) by first | (rw [← mkTo_zero]) | (rw [mkTo_step (x := k + j) (mInt k) a (by omega) rfl]))) .nil)) (show 0 ≤ a.length by omega)
 ·rintro ⟨j, q3⟩ hI
  have hI : j ≤ a.length := hI
  have hL : (mkTo (mInt k) a j).length = a.length := mkTo_len _ _ _
  dsimp only
  refine .seq <| .seq <| .rs fun k4 => .mv rfl <| .mv rfl <| .g (fun _ τ => ⟨_, .len (.no rfl) rfl (z := ((mkTo (mInt k) a j).length : Int)) t41 rfl rfl rfl (.ref _ _ _ _ _ rfl) (map_len _ _) rfl τ⟩) <| .bi rfl <| .z ?_
  refine .cond (t := decide ((j : Int) < ((mkTo (mInt k) a j).length : Int))) rfl (fun c0 => ?_) (fun c0 => ?_)
  ·have c0 := of_decide_eq_true c0
   refine .skip <| .seq <| .block <| .seq <| .rs fun k5 => .mv rfl <| .mv rfl <| .mv rfl <| .g (fun _ τ => ⟨_, .indexAddr (.no rfl) rfl (j) t41 rfl t2 rfl rfl rfl (.ref _ _ _ _ _ rfl) rfl rfl rfl (map_get (by first | omega | (rw [List.length_set]; omega))) rfl rfl τ⟩) ?_
   refine .g (fun _ τ => ⟨_, .storeE (.no rfl) rfl (els' := List.map i64c ((mkTo (mInt k) a j).set j (k + (j : Int)))) t2 rfl rfl rfl rfl (map_get (by first | omega | (rw [List.length_set]; omega))) rfl rfl (.cons _ _ _ _ _ _ (.d _) .nil) rfl (Nat.le_of_ble_eq_true rfl) (set_map _ _ _ (k + (j : Int)) _ rfl) rfl rfl τ⟩) <| .z <| .rs fun k6 => .mv rfl <| .bi rfl <| .as rfl <| .z <| .rs fun k7 => .mv rfl ?_
   refine .bi rfl <| .as rfl <| .z ?_
   exact .here ((j + 1), (k5 + 1 + 1 + 1 + 1)) (.of (.cons rfl (.cons (svI (show (IntKind.wrap .i64 ((k + (j : Int)) + 1)) = (k + ((j + 1) : Int)) by first | omega | exact wrap_le (by omega) (by omega) | (rw [wrap_le (by omega) (by omega)]; omega) | (rw [wrap_le (a := k + 2 * (j : Int) + 1) (by omega) (by omega), wrap_le (by omega) (by omega)]; omega))) (.cons (svI (show (IntKind.wrap .i64 ((j : Int) + 1)) = (((j + 1) : Int)) by first | omega | exact wrap_le (by omega) (by omega) | (rw [wrap_le (by omega) (by omega)]; omega) | (rw [wrap_le (a := k + 2 * (j : Int) + 1) (by omega) (by omega), wrap_le (by omega) (by omega)]; omega))) .nil))) (.cons (rowE (show List.map i64c ((mkTo (mInt k) a j).set j (k + (j : Int))) = List.map i64c (mkTo (mInt k) a (j + 1)) by first | (rw [← mkTo_zero]) | (rw [mkTo_step (x := k + j) (mInt k) a (by omega) rfl]))) .nil)) ⟨(show (j + 1) ≤ a.length by omega), (show a.length - (j + 1) < a.length - j by omega)⟩
  ·have c0 := of_decide_eq_false c0
   refine .exit <| .seq <| .rs fun k8 => .mv rfl <| .as rfl <| .z <| .ret ?_
   have e10 : (mkTo (mInt k) a j) = (mkAll (mInt k) a) := by first | omega | exact mkTo_all _ _ hI (by omega)
   exact fin1 (.inr rfl) [] [([0, 0, 0], (0, q3, .row 2 1 (List.map i64c (mkAll (mInt k) a))))] (.one (svI (show (k + (j : Int)) = (k + (a.length : Int)) by first | omega | exact mkTo_all _ _ hI (by omega))) .nil) (.dd (.cons (.ref (.head _)) .nil)) rfl rfl (.cons (rowE (congrArg (List.map i64c) e10)) .nil)
theorem c_markArrS (a : List Arr) (k : Int) (hk : 0 ≤ k ∧ k + 2 * (a.length : Int) < 4611686018427387904) : Trip Tryz.prog 54 [(false, 1), (false, 1)] ([.sl true 112 2 (List.map Arr.c (a))] ++ [.v (.int .i64 (k))]) [(false, 1)] [.v (.int .i64 (k + 2 * (a.length : Int)))] [(0, .sl true 112 2 (List.map Arr.c (mkAll (mArr k) a)))] := by
 refine Trip.of Tryz.func54 (by decide) (c := _) rfl rfl (Nat.le_of_ble_eq_true rfl) rfl (AftOk.sl rfl (AftOk.nil _)) <| .seq <| .rs fun k1 => .as rfl <| .z <| .seq <| .seq <| .rs fun k2 => .as rfl ?_
 refine .z <| .block ?_
 refine .loop (X := Nat × Nat) (fun ζ => .of [(0, .one (.ref [0, 0, 0] (0))), (1, .one (.d (.v (.int .i64 (k + 2 * (ζ.1 : Int)))))), (5, .one (.d (.v (.int .i64 ((ζ.1 : Int))))))] [([0, 0, 0], (0, ζ.2, .row 112 2 (List.map Arr.c (mkTo (mArr k) a ζ.1))))]) (fun ζ => ζ.1 ≤ a.length) (fun ζ => a.length - ζ.1) ?_ ?_
 ·skip
  exact .here (0, 0) (.of (.cons rfl (.cons (svI (show (k) = (k + 2 * (0 : Int)) by first | omega | exact wrap_le (by omega) (by omega) | (rw [wrap_le (by omega) (by omega)]; omega) | (rw [wrap_le (a := k + 2 * (j : Int) + 1) (by omega) (by omega), wrap_le (by omega) (by omega)]; omega))) (.cons (svI (show (0) = ((0 : Int)) by first | omega | exact wrap_le (by omega) (by omega) | (rw [wrap_le (by omega) (by omega)]; omega) | (rw [wrap_le (a := k + 2 * (j : Int) + 1) (by omega) (by omega), wrap_le (by omega) (by omega)]; omega))) .nil))) (.cons (rowE (show List.map Arr.c (a) = List.map Arr.c (mkTo (mArr k) a 0) by first | (rw [← mkTo_zero]) | (rw [List.set_set, set_getD (by rw [mkTo_len]; omega), mkTo_step _ _ (by omega) (by simp only [mArr]; rw [wrap_le (a := k + 2 * (j : Int) + 1) (by omega) (by omega)])]))) .nil)) (show 0 ≤ a.length by omega)
 ·rintro ⟨j, q3⟩ hI
  have hI : j ≤ a.length := hI
  have hL : (mkTo (mArr k) a j).length = a.length := mkTo_len _ _ _
  dsimp only
  refine .seq <| .seq <| .rs fun k4 => .mv rfl <| .mv rfl <| .g (fun _ τ => ⟨_, .len (.no rfl) rfl (z := ((mkTo (mArr k) a j).length : Int)) t31 rfl rfl rfl (.ref _ _ _ _ _ rfl) (map_len _ _) rfl τ⟩) <| .bi rfl <| .z ?_
  refine .cond (t := decide ((j : Int) < ((mkTo (mArr k) a j).length : Int))) rfl (fun c0 => ?_) (fun c0 => ?_)
  ·have c0 := of_decide_eq_true c0
   refine .skip <| .seq <| .block <| .seq <| .rs fun k5 => .mv rfl <| .mv rfl <| .mv rfl <| .c0 (c_markText (k + 2 * (j : Int)) (by omega)) rfl (.dd .nil) (.own [15, 0] .nil) rfl ?_
   refine .g (fun _ τ => ⟨_, .indexAddr (.no rfl) rfl (j) t31 rfl t112 rfl rfl rfl (.ref _ _ _ _ _ rfl) rfl rfl rfl (map_get (by first | omega | (rw [List.length_set]; omega))) rfl rfl τ⟩) <| .g (fun _ τ => ⟨_, .fieldAddr (.no rfl) rfl t112 rfl rfl t9 rfl rfl rfl rfl [] (by simp) (by intro _ _ _ h; cases h) rfl rfl τ⟩) <| .g (fun _ τ => ⟨_, .storeE (.no rfl) rfl (els' := List.map Arr.c ((mkTo (mArr k) a j).set j (Arr.mk (mText (k + 2 * (j : Int))) (((mkTo (mArr k) a j).getD (j) default).size)))) t9 rfl rfl rfl rfl (map_get (by first | omega | (rw [List.length_set]; omega))) rfl rfl (.cons _ _ _ _ _ _ (.d _) .nil) rfl (Nat.le_of_ble_eq_true rfl) (set_map _ _ _ (Arr.mk (mText (k + 2 * (j : Int))) (((mkTo (mArr k) a j).getD (j) default).size)) _ rfl) rfl rfl τ⟩) <| .z <| .seq <| .rs fun k6 => .mv rfl <| .bi rfl <| .as rfl ?_
   refine .z <| .seq <| .rs fun k7 => .mv rfl <| .mv rfl <| .mv rfl <| .g (fun _ τ => ⟨_, .indexAddr (.no rfl) rfl (j) t31 rfl t112 rfl rfl rfl (.ref _ _ _ _ _ rfl) rfl rfl rfl (map_get (by first | omega | (rw [List.length_set]; omega))) rfl rfl τ⟩) <| .g (fun _ τ => ⟨_, .fieldAddr (.no rfl) rfl t112 rfl rfl t2 rfl rfl rfl rfl [] (by simp) (by intro _ _ _ h; cases h) rfl rfl τ⟩) ?_
   refine .g (fun _ τ => ⟨_, .storeE (.no rfl) rfl (els' := List.map Arr.c (((mkTo (mArr k) a j).set j (Arr.mk (mText (k + 2 * (j : Int))) (((mkTo (mArr k) a j).getD (j) default).size))).set j (Arr.mk ((((mkTo (mArr k) a j).set j (Arr.mk (mText (k + 2 * (j : Int))) (((mkTo (mArr k) a j).getD (j) default).size))).getD (j) default).name) (IntKind.wrap .i64 ((k + 2 * (j : Int)) + 1))))) t2 rfl rfl rfl rfl (map_get (by first | omega | (rw [List.length_set]; omega))) rfl rfl (.cons _ _ _ _ _ _ (.d _) .nil) rfl (Nat.le_of_ble_eq_true rfl) (set_map _ _ _ (Arr.mk ((((mkTo (mArr k) a j).set j (Arr.mk (mText (k + 2 * (j : Int))) (((mkTo (mArr k) a j).getD (j) default).size))).getD (j) default).name) (IntKind.wrap .i64 ((k + 2 * (j : Int)) + 1))) _ rfl) rfl rfl τ⟩) <| .z <| .rs fun k8 => .mv rfl <| .bi rfl <| .as rfl <| .z <| .rs fun k9 => .mv rfl ?_
   refine .bi rfl <| .as rfl <| .z ?_
   exact .here ((j + 1), (k7 + 1 + 1 + 1 + 1 + 1)) (.of (.cons rfl (.cons (svI (show (IntKind.wrap .i64 ((IntKind.wrap .i64 ((k + 2 * (j : Int)) + 1)) + 1)) = (k + 2 * ((j + 1) : Int)) by first | omega | exact wrap_le (by omega) (by omega) | (rw [wrap_le (by omega) (by omega)]; omega) | (rw [wrap_le (a := k + 2 * (j : Int) + 1) (by omega) (by omega), wrap_le (by omega) (by omega)]; omega))) (.cons (svI (show (IntKind.wrap .i64 ((j : Int) + 1)) = (((j + 1) : Int)) by first | omega | exact wrap_le (by omega) (by omega) | (rw [wrap_le (by omega) (by omega)]; omega) | (rw [wrap_le (a := k + 2 * (j : Int) + 1) (by omega) (by omega), wrap_le (by omega) (by omega)]; omega))) .nil))) (.cons (rowE (show List.map Arr.c (((mkTo (mArr k) a j).set j (Arr.mk (mText (k + 2 * (j : Int))) (((mkTo (mArr k) a j).getD (j) default).size))).set j (Arr.mk ((((mkTo (mArr k) a j).set j (Arr.mk (mText (k + 2 * (j : Int))) (((mkTo (mArr k) a j).getD (j) default).size))).getD (j) default).name) (IntKind.wrap .i64 ((k + 2 * (j : Int)) + 1)))) = List.map Arr.c (mkTo (mArr k) a (j + 1)) by first | (rw [← mkTo_zero]) | (rw [List.set_set, set_getD (by rw [mkTo_len]; omega), mkTo_step _ _ (by omega) (by simp only [mArr]; rw [wrap_le (a := k + 2 * (j : Int) + 1) (by omega) (by omega)])]))) .nil)) ⟨(show (j + 1) ≤ a.length by omega), (show a.length - (j + 1) < a.length - j by omega)⟩
  ·have c0 := of_decide_eq_false c0
   refine .exit <| .seq <| .rs fun k10 => .mv rfl <| .as rfl <| .z <| .ret ?_
   have e12 : (mkTo (mArr k) a j) = (mkAll (mArr k) a) := by first | omega | exact mkTo_all _ _ hI (by omega)
   exact fin1 (.inr rfl) [] [([0, 0, 0], (0, q3, .row 112 2 (List.map Arr.c (mkAll (mArr k) a))))] (.one (svI (show (k + 2 * (j : Int)) = (k + 2 * (a.length : Int)) by first | omega | exact mkTo_all _ _ hI (by omega))) .nil) (.dd (.cons (.ref (.head _)) .nil)) rfl rfl (.cons (rowE (congrArg (List.map Arr.c) e12)) .nil)
theorem c_markIntervalS (a : List Iv) (k : Int) (hk : 0 ≤ k ∧ k + 2 * (a.length : Int) < 4611686018427387904) : Trip Tryz.prog 105 [(false, 1), (false, 1)] ([.sl true 119 2 (List.map Iv.c (a))] ++ [.v (.int .i64 (k))]) [(false, 1)] [.v (.int .i64 (k + 2 * (a.length : Int)))] [(0, .sl true 119 2 (List.map Iv.c (mkAll (mIv k) a)))] := by
 refine Trip.of Tryz.func105 (by decide) (c := _) rfl rfl (Nat.le_of_ble_eq_true rfl) rfl (AftOk.sl rfl (AftOk.nil _)) <| .seq <| .rs fun k1 => .as rfl <| .z <| .seq <| .seq <| .rs fun k2 => .as rfl ?_
 refine .z <| .block ?_
 refine .loop (X := Nat × Nat) (fun ζ => .of [(0, .one (.ref [0, 0, 0] (0))), (1, .one (.d (.v (.int .i64 (k + 2 * (ζ.1 : Int)))))), (5, .one (.d (.v (.int .i64 ((ζ.1 : Int))))))] [([0, 0, 0], (0, ζ.2, .row 119 2 (List.map Iv.c (mkTo (mIv k) a ζ.1))))]) (fun ζ => ζ.1 ≤ a.length) (fun ζ => a.length - ζ.1) ?_ ?_
 ·skip
  exact .here (0, 0) (.of (.cons rfl (.cons (svI (show (k) = (k + 2 * (0 : Int)) by first | omega | exact wrap_le (by omega) (by omega) | (rw [wrap_le (by omega) (by omega)]; omega) | (rw [wrap_le (a := k + 2 * (j : Int) + 1) (by omega) (by omega), wrap_le (by omega) (by omega)]; omega))) (.cons (svI (show (0) = ((0 : Int)) by first | omega | exact wrap_le (by omega) (by omega) | (rw [wrap_le (by omega) (by omega)]; omega) | (rw [wrap_le (a := k + 2 * (j : Int) + 1) (by omega) (by omega), wrap_le (by omega) (by omega)]; omega))) .nil))) (.cons (rowE (show List.map Iv.c (a) = List.map Iv.c (mkTo (mIv k) a 0) by first | (rw [← mkTo_zero]) | (rw [List.set_set, set_getD (by rw [mkTo_len]; omega), mkTo_step _ _ (by omega) (by simp only [mIv]; rw [wrap_le (a := k + 2 * (j : Int) + 1) (by omega) (by omega)])]))) .nil)) (show 0 ≤ a.length by omega)
 ·rintro ⟨j, q3⟩ hI
  have hI : j ≤ a.length := hI
  have hL : (mkTo (mIv k) a j).length = a.length := mkTo_len _ _ _
  dsimp only
  refine .seq <| .seq <| .rs fun k4 => .mv rfl <| .mv rfl <| .g (fun _ τ => ⟨_, .len (.no rfl) rfl (z := ((mkTo (mIv k) a j).length : Int)) t96 rfl rfl rfl (.ref _ _ _ _ _ rfl) (map_len _ _) rfl τ⟩) <| .bi rfl <| .z ?_
  refine .cond (t := decide ((j : Int) < ((mkTo (mIv k) a j).length : Int))) rfl (fun c0 => ?_) (fun c0 => ?_)
  ·have c0 := of_decide_eq_true c0
   refine .skip <| .seq <| .block <| .seq <| .rs fun k5 => .mv rfl <| .mv rfl <| .mv rfl <| .g (fun _ τ => ⟨_, .indexAddr (.no rfl) rfl (j) t96 rfl t119 rfl rfl rfl (.ref _ _ _ _ _ rfl) rfl rfl rfl (map_get (by first | omega | (rw [List.length_set]; omega))) rfl rfl τ⟩) ?_
   refine .g (fun _ τ => ⟨_, .fieldAddr (.no rfl) rfl t119 rfl rfl t2 rfl rfl rfl rfl [] (by simp) (by intro _ _ _ h; cases h) rfl rfl τ⟩) <| .g (fun _ τ => ⟨_, .storeE (.no rfl) rfl (els' := List.map Iv.c ((mkTo (mIv k) a j).set j (Iv.mk (k + 2 * (j : Int)) (((mkTo (mIv k) a j).getD (j) default).hi)))) t2 rfl rfl rfl rfl (map_get (by first | omega | (rw [List.length_set]; omega))) rfl rfl (.cons _ _ _ _ _ _ (.d _) .nil) rfl (Nat.le_of_ble_eq_true rfl) (set_map _ _ _ (Iv.mk (k + 2 * (j : Int)) (((mkTo (mIv k) a j).getD (j) default).hi)) _ rfl) rfl rfl τ⟩) <| .z <| .seq <| .rs fun k6 => .mv rfl <| .bi rfl <| .as rfl <| .z ?_
   refine .seq <| .rs fun k7 => .mv rfl <| .mv rfl <| .mv rfl <| .g (fun _ τ => ⟨_, .indexAddr (.no rfl) rfl (j) t96 rfl t119 rfl rfl rfl (.ref _ _ _ _ _ rfl) rfl rfl rfl (map_get (by first | omega | (rw [List.length_set]; omega))) rfl rfl τ⟩) <| .g (fun _ τ => ⟨_, .fieldAddr (.no rfl) rfl t119 rfl rfl t2 rfl rfl rfl rfl [] (by simp) (by intro _ _ _ h; cases h) rfl rfl τ⟩) ?_
   refine .g (fun _ τ => ⟨_, .storeE (.no rfl) rfl (els' := List.map Iv.c (((mkTo (mIv k) a j).set j (Iv.mk (k + 2 * (j : Int)) (((mkTo (mIv k) a j).getD (j) default).hi))).set j (Iv.mk ((((mkTo (mIv k) a j).set j (Iv.mk (k + 2 * (j : Int)) (((mkTo (mIv k) a j).getD (j) default).hi))).getD (j) default).lo) (IntKind.wrap .i64 ((k + 2 * (j : Int)) + 1))))) t2 rfl rfl rfl rfl (map_get (by first | omega | (rw [List.length_set]; omega))) rfl rfl (.cons _ _ _ _ _ _ (.d _) .nil) rfl (Nat.le_of_ble_eq_true rfl) (set_map _ _ _ (Iv.mk ((((mkTo (mIv k) a j).set j (Iv.mk (k + 2 * (j : Int)) (((mkTo (mIv k) a j).getD (j) default).hi))).getD (j) default).lo) (IntKind.wrap .i64 ((k + 2 * (j : Int)) + 1))) _ rfl) rfl rfl τ⟩) <| .z <| .rs fun k8 => .mv rfl <| .bi rfl <| .as rfl <| .z <| .rs fun k9 => .mv rfl ?_
   refine .bi rfl <| .as rfl <| .z ?_
   exact .here ((j + 1), (k7 + 1 + 1 + 1 + 1 + 1)) (.of (.cons rfl (.cons (svI (show (IntKind.wrap .i64 ((IntKind.wrap .i64 ((k + 2 * (j : Int)) + 1)) + 1)) = (k + 2 * ((j + 1) : Int)) by first | omega | exact wrap_le (by omega) (by omega) | (rw [wrap_le (by omega) (by omega)]; omega) | (rw [wrap_le (a := k + 2 * (j : Int) + 1) (by omega) (by omega), wrap_le (by omega) (by omega)]; omega))) (.cons (svI (show (IntKind.wrap .i64 ((j : Int) + 1)) = (((j + 1) : Int)) by first | omega | exact wrap_le (by omega) (by omega) | (rw [wrap_le (by omega) (by omega)]; omega) | (rw [wrap_le (a := k + 2 * (j : Int) + 1) (by omega) (by omega), wrap_le (by omega) (by omega)]; omega))) .nil))) (.cons (rowE (show List.map Iv.c (((mkTo (mIv k) a j).set j (Iv.mk (k + 2 * (j : Int)) (((mkTo (mIv k) a j).getD (j) default).hi))).set j (Iv.mk ((((mkTo (mIv k) a j).set j (Iv.mk (k + 2 * (j : Int)) (((mkTo (mIv k) a j).getD (j) default).hi))).getD (j) default).lo) (IntKind.wrap .i64 ((k + 2 * (j : Int)) + 1)))) = List.map Iv.c (mkTo (mIv k) a (j + 1)) by first | (rw [← mkTo_zero]) | (rw [List.set_set, set_getD (by rw [mkTo_len]; omega), mkTo_step _ _ (by omega) (by simp only [mIv]; rw [wrap_le (a := k + 2 * (j : Int) + 1) (by omega) (by omega)])]))) .nil)) ⟨(show (j + 1) ≤ a.length by omega), (show a.length - (j + 1) < a.length - j by omega)⟩
  ·have c0 := of_decide_eq_false c0
   refine .exit <| .seq <| .rs fun k10 => .mv rfl <| .as rfl <| .z <| .ret ?_
   have e12 : (mkTo (mIv k) a j) = (mkAll (mIv k) a) := by first | omega | exact mkTo_all _ _ hI (by omega)
   exact fin1 (.inr rfl) [] [([0, 0, 0], (0, q3, .row 119 2 (List.map Iv.c (mkAll (mIv k) a))))] (.one (svI (show (k + 2 * (j : Int)) = (k + 2 * (a.length : Int)) by first | omega | exact mkTo_all _ _ hI (by omega))) .nil) (.dd (.cons (.ref (.head _)) .nil)) rfl rfl (.cons (rowE (congrArg (List.map Iv.c) e12)) .nil)
theorem c_markDecl (a : Decl) (k : Int) (hk : 0 ≤ k ∧ k ≤ 1073741824) (hl : a.vars.length ≤ 1048576 ∧ a.flags.length ≤ 1048576 ∧ a.arrays.length ≤ 1048576) : Trip Tryz.prog 15 [(true, 3), (false, 1)] ([.sl true 9 1 (List.map strc (a.vars)), .sl true 9 1 (List.map strc (a.flags)), .sl true 112 2 (List.map Arr.c (a.arrays))] ++ [.v (.int .i64 (k))]) [(false, 1)] [.v (.int .i64 (Decl.marks k a))] [(0, .sl true 9 1 (List.map strc ((Decl.mark k a).vars))), (1, .sl true 9 1 (List.map strc ((Decl.mark k a).flags))), (2, .sl true 112 2 (List.map Arr.c ((Decl.mark k a).arrays)))] := by
 refine Trip.of Tryz.func15 (by decide) (c := _) rfl rfl (Nat.le_of_ble_eq_true rfl) rfl (AftOk.sl rfl (AftOk.sl rfl (AftOk.sl rfl (AftOk.nil _)))) <| .seq <| .rs fun k1 => .g (fun _ τ => ⟨_, .box (.no rfl) rfl rfl rfl rfl rfl τ⟩) <| .as rfl <| .z <| .seq <| .rs fun k2 => .fp t33 t22 rfl ?_
 refine .ld t22 rfl (.ptr _ _ _ _ _ rfl) rfl <| .mv rfl <| .g (fun _ τ => ⟨_, .call (.no rfl) rfl [] [([0, 0, 0], (0, 0, .row 9 1 (List.map strc (a.vars))))] (c_markStringS a.vars k (by omega)) rfl rfl rfl rfl rfl (.cons (.ref (.head _)) (.dd .nil)) rfl rfl (fun h => absurd rfl h) (.own [8, 0] .nil) (.ref rfl (.head _) (by simp) .nil) rfl rfl rfl (AllH.get (.r rfl)) rfl rfl rfl τ⟩) <| .as rfl <| .z <| .seq <| .rs fun k3 => .fp t33 t22 rfl <| .ld t22 rfl (.ptr _ _ _ _ _ rfl) rfl ?_
 refine .mv rfl <| .g (fun _ τ => ⟨_, .call (.no rfl) rfl [] [([1, 0, 0], (0, 0, .row 9 1 (List.map strc (a.flags))))] (c_markStringS a.flags (k + (a.vars.length : Int)) (by omega)) rfl rfl rfl rfl rfl (.cons (.ref (.head _)) (.dd .nil)) rfl rfl (fun h => absurd rfl h) (.own [12, 0] .nil) (.ref rfl (.head _) (by simp) .nil) rfl rfl rfl (AllH.get (.r rfl)) rfl rfl rfl τ⟩) <| .as rfl <| .z <| .seq <| .rs fun k4 => .fp t33 t31 rfl <| .ld t31 rfl (.ptr _ _ _ _ _ rfl) rfl <| .mv rfl ?_
 refine .g (fun _ τ => ⟨_, .call (.no rfl) rfl [] [([2, 0, 0], (0, 0, .row 112 2 (List.map Arr.c (a.arrays))))] (c_markArrS a.arrays ((k + (a.vars.length : Int)) + (a.flags.length : Int)) (by omega)) rfl rfl rfl rfl rfl (.cons (.ref (.head _)) (.dd .nil)) rfl rfl (fun h => absurd rfl h) (.own [16, 0] .nil) (.ref rfl (.head _) (by simp) .nil) rfl rfl rfl (AllH.get (.r rfl)) rfl rfl rfl τ⟩) <| .as rfl <| .z <| .seq <| .rs fun k5 => .mv rfl <| .as rfl <| .z <| .ret ?_
 have e7 : (mkAll (mStr k) a.vars) = ((Decl.mark k a).vars) := by rfl
 have e8 : (mkAll (mStr (k + (a.vars.length : Int))) a.flags) = ((Decl.mark k a).flags) := by rfl
 have e9 : (mkAll (mArr ((k + (a.vars.length : Int)) + (a.flags.length : Int))) a.arrays) = ((Decl.mark k a).arrays) := by rfl
 exact fin1 (.inr rfl) [] [([0, 0, 0], (0, k2 + 1 + 1 + 1, .row 9 1 (List.map strc ((Decl.mark k a).vars)))), ([1, 0, 0], (0, k3 + 1 + 1 + 1, .row 9 1 (List.map strc ((Decl.mark k a).flags)))), ([2, 0, 0], (0, k4 + 1 + 1 + 1, .row 112 2 (List.map Arr.c ((Decl.mark k a).arrays))))] (.one (svI (show (((k + (a.vars.length : Int)) + (a.flags.length : Int)) + 2 * (a.arrays.length : Int)) = (Decl.marks k a) by rfl)) .nil) (.dd (.cons (.ref (.head _)) (.cons (.ref (.tail _ (.head _))) (.cons (.ref (.tail _ (.tail _ (.head _)))) .nil)))) rfl rfl (.cons (rowE (congrArg (List.map strc) e7)) (.cons (rowE (congrArg (List.map strc) e8)) (.cons (rowE (congrArg (List.map Arr.c) e9)) .nil)))
theorem c_heldIntervalS (a : List Iv) (k : Int) (hk : 0 ≤ k ∧ k + 2 * (a.length : Int) < 4611686018427387904) (hm : ∀ i, i < a.length → a.getD i default = mIv k i default) : Trip Tryz.prog 106 [(false, 1), (false, 1)] ([.sl false 119 2 (List.map Iv.c (a))] ++ [.v (.int .i64 (k))]) [(false, 1)] [.v (.int .i64 (k + 2 * (a.length : Int)))] [] := by
 refine Trip.of Tryz.func106 (by decide) (c := _) rfl rfl (Nat.le_of_ble_eq_true rfl) rfl (AftOk.nil _) <| .sl (t := 0) rfl fun hs1l => .seq <| .rs fun k2 => .as rfl <| .z <| .seq <| .seq <| .rs fun k3 => ?_
 refine .as rfl <| .z <| .block ?_
 refine .loop (X := Nat) (fun ζ => .of [(0, .one (.d (.sl false 119 2 (List.map Iv.c (a))))), (1, .one (.d (.v (.int .i64 (k + 2 * (ζ : Int)))))), (5, .one (.d (.v (.int .i64 ((ζ : Int))))))] []) (fun ζ => ζ ≤ a.length) (fun ζ => a.length - ζ) ?_ ?_
 ·skip
  exact .here 0 (.of (.cons rfl (.cons (svI (show (k) = (k + 2 * (0 : Int)) by first | omega | exact wrap_le (by omega) (by omega) | (rw [wrap_le (by omega) (by omega)]; omega) | (rw [wrap_le (a := k + 2 * (j : Int) + 1) (by omega) (by omega), wrap_le (by omega) (by omega)]; omega))) (.cons (svI (show (0) = ((0 : Int)) by first | omega | exact wrap_le (by omega) (by omega) | (rw [wrap_le (by omega) (by omega)]; omega) | (rw [wrap_le (a := k + 2 * (j : Int) + 1) (by omega) (by omega), wrap_le (by omega) (by omega)]; omega))) .nil))) .nil) (show 0 ≤ a.length by omega)
 ·rintro j hI
  have hI : j ≤ a.length := hI
  refine .seq <| .seq <| .rs fun k4 => .mv rfl <| .mv rfl <| .g (fun _ τ => ⟨_, .len (.no rfl) rfl (z := (a.length : Int)) t96 rfl rfl rfl (.d _ _) (map_len _ _) rfl τ⟩) <| .bi rfl <| .z ?_
  refine .cond (t := decide ((j : Int) < (a.length : Int))) rfl (fun c0 => ?_) (fun c0 => ?_)
  ·have c0 := of_decide_eq_true c0
   refine .skip <| .seq <| .block <| .seq <| .seq <| .rs fun k5 => .mv rfl <| .mv rfl <| .g (fun _ τ => ⟨_, .indexAddr (.no rfl) rfl (j) t96 rfl t119 rfl rfl rfl (.d _ _) rfl rfl rfl (map_get (by omega)) rfl rfl τ⟩) ?_
   refine .g (fun _ τ => ⟨_, .fieldAddr (.no rfl) rfl t119 rfl rfl t2 rfl rfl rfl rfl [] (by simp) (by intro _ _ _ h; cases h) rfl rfl τ⟩) <| .ld t2 rfl (.d _) rfl <| .mv rfl <| .bi rfl <| .z ?_
   refine .cond (t := ((a.getD j default).lo) != (k + 2 * (j : Int))) rfl (fun c1 => ?_) (fun c1 => ?_)
   ·have c1 := (by simpa using c1 : ¬ (((a.getD j default).lo) = (k + 2 * (j : Int))))
    refine .seq <| .rs fun k6 => .as rfl <| .z <| .ret ?_
    exact fin0 (.inr rfl) (.one (svI (show (-1) = (k + 2 * (a.length : Int)) by (have h9 := hm j (by omega); rw [h9] at c1; simp [mIv] at c1))) .nil) (.dd .nil) rfl
   ·have c1 := (by simpa using c1 : ((a.getD j default).lo) = (k + 2 * (j : Int)))
    refine .skip <| .seq <| .rs fun k8 => .mv rfl <| .bi rfl <| .as rfl <| .z <| .seq <| .seq ?_
    refine .rs fun k9 => .mv rfl <| .mv rfl <| .g (fun _ τ => ⟨_, .indexAddr (.no rfl) rfl (j) t96 rfl t119 rfl rfl rfl (.d _ _) rfl rfl rfl (map_get (by omega)) rfl rfl τ⟩) <| .g (fun _ τ => ⟨_, .fieldAddr (.no rfl) rfl t119 rfl rfl t2 rfl rfl rfl rfl [] (by simp) (by intro _ _ _ h; cases h) rfl rfl τ⟩) <| .ld t2 rfl (.d _) rfl <| .mv rfl <| .bi rfl <| .z ?_
    refine .cond (t := ((a.getD j default).hi) != (IntKind.wrap .i64 ((k + 2 * (j : Int)) + 1))) rfl (fun c2 => ?_) (fun c2 => ?_)
    ·have c2 := (by simpa using c2 : ¬ (((a.getD j default).hi) = (IntKind.wrap .i64 ((k + 2 * (j : Int)) + 1))))
     refine .seq <| .rs fun k10 => .as rfl <| .z <| .ret ?_
     exact fin0 (.inr rfl) (.one (svI (show (-1) = (k + 2 * (a.length : Int)) by (have h9 := hm j (by omega); rw [wrap_le (by omega) (by omega)] at c2; rw [h9] at c2; simp [mIv] at c2))) .nil) (.dd .nil) rfl
    ·have c2 := (by simpa using c2 : ((a.getD j default).hi) = (IntKind.wrap .i64 ((k + 2 * (j : Int)) + 1)))
     refine .skip <| .rs fun k12 => .mv rfl <| .bi rfl <| .as rfl <| .z <| .rs fun k13 => .mv rfl <| .bi rfl ?_
     refine .as rfl <| .z ?_
     exact .here (j + 1) (.of (.cons rfl (.cons (svI (show (IntKind.wrap .i64 ((IntKind.wrap .i64 ((k + 2 * (j : Int)) + 1)) + 1)) = (k + 2 * ((j + 1) : Int)) by first | omega | exact wrap_le (by omega) (by omega) | (rw [wrap_le (by omega) (by omega)]; omega) | (rw [wrap_le (a := k + 2 * (j : Int) + 1) (by omega) (by omega), wrap_le (by omega) (by omega)]; omega))) (.cons (svI (show (IntKind.wrap .i64 ((j : Int) + 1)) = (((j + 1) : Int)) by first | omega | exact wrap_le (by omega) (by omega) | (rw [wrap_le (by omega) (by omega)]; omega) | (rw [wrap_le (a := k + 2 * (j : Int) + 1) (by omega) (by omega), wrap_le (by omega) (by omega)]; omega))) .nil))) .nil) ⟨(show (j + 1) ≤ a.length by omega), (show a.length - (j + 1) < a.length - j by omega)⟩
  ·have c0 := of_decide_eq_false c0
   refine .exit <| .seq <| .rs fun k14 => .mv rfl <| .as rfl <| .z <| .ret ?_
   exact fin0 (.inr rfl) (.one (svI (show (k + 2 * (j : Int)) = (k + 2 * (a.length : Int)) by omega)) .nil) (.dd .nil) rfl
end Go.Proofs

namespace Go.Proofs
open Go Go.Proofs Go.Ev

theorem c_l1In (n : Int) (lo : Int) (hi : Int) : Trip Tryz.prog 77 [(false, 1), (false, 1), (false, 1)] ([.v (.int .i64 (n))] ++ [.v (.int .i64 (lo))] ++ [.v (.int .i64 (hi))]) [(false, 1)] [.v (.bool (inR n lo hi))] [] := by
 refine Trip.of Tryz.func77 (by decide) (c := _) rfl rfl (Nat.le_of_ble_eq_true rfl) rfl (AftOk.nil _) <| .seq <| .rs fun k1 => .as rfl <| .z <| .seq ?_
 refine .reg (X := Unit) (fun ζ => .of [(6, .one (.d (.v (.bool ((decide (n ≥ lo) && decide (n ≤ hi)))))))] []) [⟨[0], some 7, [], []⟩, ⟨[1], some 8, [], []⟩, ⟨[7, 8], some 9, [], []⟩, ⟨[9], some 10, [], []⟩, ⟨[10, 0], some 11, [], []⟩, ⟨[10, 2], some 12, [], []⟩, ⟨[10, 11, 12], some 13, [], []⟩, ⟨[10, 13], some 14, [], []⟩, ⟨[14], some 6, [], []⟩] (fun k2 => ?_) ?_
 ·skip
  refine .move (.no rfl) rfl rfl rfl rfl <| .move (.no rfl) rfl rfl rfl rfl <| .bin (.no rfl) rfl rfl rfl rfl rfl rfl <| .moveB (.no rfl) rfl rfl rfl rfl fun b3 g1_3 => ?_
  cases b3
  ·skip
   refine .off rfl rfl rfl rfl rfl rfl rfl <| .off rfl rfl rfl rfl rfl rfl rfl <| .off rfl rfl rfl rfl rfl rfl rfl <| .pick (.no rfl) rfl rfl rfl rfl rfl <| .assign (.no rfl) rfl rfl rfl rfl ?_
   exact .fin () (.of (.cons (svB (show (false) = ((decide (n ≥ lo) && decide (n ≤ hi))) by first | (simp only [g1_3, Bool.true_or, Bool.false_or, Bool.true_and, Bool.false_and, Bool.not_true, Bool.not_false]; done) | (simp [g1_3]; done) | (exfalso; simp_all; done))) .nil) .nil)
  ·skip
   refine .move (.on rfl rfl rfl rfl rfl) rfl rfl rfl rfl <| .move (.on rfl rfl rfl rfl rfl) rfl rfl rfl rfl <| .bin (.on rfl rfl rfl rfl rfl) rfl rfl rfl rfl rfl rfl <| .pick (.no rfl) rfl rfl rfl rfl rfl <| .assign (.no rfl) rfl rfl rfl rfl ?_
   exact .fin () (.of (.cons (svB (show (decide (n ≤ hi)) = ((decide (n ≥ lo) && decide (n ≤ hi))) by first | (simp only [g1_3, Bool.true_or, Bool.false_or, Bool.true_and, Bool.false_and, Bool.not_true, Bool.not_false]; done) | (simp [g1_3]; done) | (exfalso; simp_all; done))) .nil) .nil)
 intro _
 refine .ret ?_
 exact fin0 (.inr rfl) (.one (svB (show ((decide (n ≥ lo) && decide (n ≤ hi))) = (inR n lo hi) by (first | rfl | simp_all [inR]))) .nil) (.dd .nil) rfl
theorem c_sIvOk (a : Iv) : Trip Tryz.prog 169 [(true, 2)] (Iv.c a) [(false, 1)] [.v (.bool (Iv.ok a))] [] := by
 refine Trip.of Tryz.func169 (by decide) (c := _) rfl rfl (Nat.le_of_ble_eq_true rfl) rfl (AftOk.nil _) <| .seq <| .rs fun k1 => .g (fun _ τ => ⟨_, .box (.no rfl) rfl rfl rfl rfl rfl τ⟩) <| .as rfl <| .z <| .seq <| .rs fun k2 => .fp t119 t2 rfl ?_
 refine .ld t2 rfl (.ptr _ _ _ _ _ rfl) rfl <| .fp t119 t2 rfl <| .ld t2 rfl (.ptr _ _ _ _ _ rfl) rfl <| .bi rfl <| .as rfl <| .z <| .ret ?_
 exact fin0 (.inr rfl) (.one (svB (show (decide (a.lo ≤ a.hi)) = (Iv.ok a) by rfl)) .nil) (.dd .nil) rfl
theorem c_l2Join (a : Iv) (b : Iv) : Trip Tryz.prog 211 [(true, 2), (true, 2)] (Iv.c a ++ Iv.c b) [(true, 2)] [.v (.int .i64 ((Iv.join a b).lo)), .v (.int .i64 ((Iv.join a b).hi))] [] := by
 refine Trip.of Tryz.func211 (by decide) (c := _) rfl rfl (Nat.le_of_ble_eq_true rfl) rfl (AftOk.nil _) <| .seq <| .rs fun k1 => .g (fun _ τ => ⟨_, .box (.no rfl) rfl rfl rfl rfl rfl τ⟩) <| .g (fun _ τ => ⟨_, .box (.no rfl) rfl rfl rfl rfl rfl τ⟩) <| .g (fun _ τ => ⟨_, .alloc (.no rfl) rfl z119 rfl rfl rfl τ⟩) <| .z <| .seq <| .rs fun k2 => ?_
 refine .fp t119 t2 rfl <| .ld t2 rfl (.ptr _ _ _ _ _ rfl) rfl <| .fp t119 t2 rfl <| .ld t2 rfl (.ptr _ _ _ _ _ rfl) rfl <| .g (fun _ τ => ⟨_, .min (.no rfl) rfl rfl rfl rfl (min_of _ _) rfl τ⟩) <| .fp t119 t2 rfl <| .ld t2 rfl (.ptr _ _ _ _ _ rfl) rfl <| .fp t119 t2 rfl <| .ld t2 rfl (.ptr _ _ _ _ _ rfl) rfl ?_
 refine .g (fun _ τ => ⟨_, .max (.no rfl) rfl rfl rfl rfl (max_of _ _) rfl τ⟩) <| .g (fun _ τ => ⟨_, .build (.no rfl) rfl z119 rfl p119 rfl rfl rfl rfl τ⟩) <| .g (fun _ τ => ⟨_, .store (.no rfl) rfl t119 rfl rfl rfl rfl rfl rfl rfl rfl rfl τ⟩) <| .z <| .ret ?_
 have e3 : (min a.lo b.lo) = ((Iv.join a b).lo) := by rfl
 have e4 : (max a.hi b.hi) = ((Iv.join a b).hi) := by rfl
 have hc5 := eq2 (fun z1 z2 => some (k1 + 1 + 1, k2 + 1 + 1 + 1 + 1 + 1 + 1 + 1 + 1 + 1 + 1 + 1, O.box [.d (.v (.int .i64 (z1))), .d (.v (.int .i64 (z2)))])) e3 e4
 exact fin0 (.inr rfl) (.cell (cells := [.d (.v (.int .i64 ((Iv.join a b).lo))), .d (.v (.int .i64 ((Iv.join a b).hi)))]) rfl hc5 t119 rfl rfl .nil) (.dd (.dd .nil)) rfl
theorem c_l3Key (s : ByteArray) : Trip Tryz.prog 167 [(false, 1)] ([.v (.string (s))]) [(false, 1)] [.v (.bool (isKey s))] [] := by
 refine Trip.of Tryz.func167 (by decide) (c := _) rfl rfl (Nat.le_of_ble_eq_true rfl) rfl (AftOk.nil _) <| .seq <| .rs fun k1 => .as rfl <| .z <| .seq <| .rs fun k2 => ?_
 refine .g (fun _ τ => ⟨_, .buildSlice (.no rfl) rfl (els := [[.v (.string ((⟨#[118, 97, 114]⟩ : ByteArray)))], [.v (.string ((⟨#[102, 108, 97, 103]⟩ : ByteArray)))], [.v (.string ((⟨#[97, 114, 114, 97, 121]⟩ : ByteArray)))], [.v (.string ((⟨#[105, 102]⟩ : ByteArray)))], [.v (.string ((⟨#[102, 111, 114, 107]⟩ : ByteArray)))], [.v (.string ((⟨#[101, 108, 115, 101]⟩ : ByteArray)))], [.v (.string ((⟨#[101, 110, 100]⟩ : ByteArray)))], [.v (.string ((⟨#[119, 104, 105, 108, 101]⟩ : ByteArray)))], [.v (.string ((⟨#[117, 110, 114, 111, 108, 108]⟩ : ByteArray)))], [.v (.string ((⟨#[97, 115, 115, 101, 114, 116]⟩ : ByteArray)))], [.v (.string ((⟨#[97, 115, 115, 117, 109, 101]⟩ : ByteArray)))], [.v (.string ((⟨#[105, 110, 112, 117, 116]⟩ : ByteArray)))], [.v (.string ((⟨#[115, 112, 108, 105, 116]⟩ : ByteArray)))], [.v (.string ((⟨#[109, 101, 114, 103, 101]⟩ : ByteArray)))], [.v (.string ((⟨#[116, 114, 117, 101]⟩ : ByteArray)))], [.v (.string ((⟨#[102, 97, 108, 115, 101]⟩ : ByteArray)))]]) t22 rfl z9 rfl rfl rfl rfl rfl rfl rfl rfl (by simp [i9]) (.cons _ _ _ _ _ _ (.d _) (.cons _ _ _ _ _ _ (.d _) (.cons _ _ _ _ _ _ (.d _) (.cons _ _ _ _ _ _ (.d _) (.cons _ _ _ _ _ _ (.d _) (.cons _ _ _ _ _ _ (.d _) (.cons _ _ _ _ _ _ (.d _) (.cons _ _ _ _ _ _ (.d _) (.cons _ _ _ _ _ _ (.d _) (.cons _ _ _ _ _ _ (.d _) (.cons _ _ _ _ _ _ (.d _) (.cons _ _ _ _ _ _ (.d _) (.cons _ _ _ _ _ _ (.d _) (.cons _ _ _ _ _ _ (.d _) (.cons _ _ _ _ _ _ (.d _) (.cons _ _ _ _ _ _ (.d _) .nil)))))))))))))))) rfl rfl rfl τ⟩) ?_
 refine .as rfl <| .z <| .seq <| .seq <| .rs fun k3 => .as rfl <| .z <| .block ?_
 refine .loop (X := Nat × Nat × Nat) (fun ζ => .of [(0, .one (.d (.v (.string (s))))), (3, .one (.ref [5] (ζ.2.1))), (4, .one (.d (.v (.int .i64 ((ζ.1 : Int))))))] [([5], (ζ.2.1, ζ.2.2, .row 9 1 (List.map strc (keys))))]) (fun ζ => ζ.1 ≤ keys.length ∧ allTo ζ.1 (fun i => !strEq (keys.getD i default) s) = true) (fun ζ => keys.length - ζ.1) ?_ ?_
 ·skip
  exact .here (0, k2, k2) (.of (.cons rfl (.cons rfl (.cons (svI (show (0) = ((0 : Int)) by first | rfl | omega | exact wrap_le (by omega) (by omega) | (rw [wrap_le (by omega) (by omega)]; omega))) .nil))) (.cons (rowE (show [[.v (.string ((⟨#[118, 97, 114]⟩ : ByteArray)))], [.v (.string ((⟨#[102, 108, 97, 103]⟩ : ByteArray)))], [.v (.string ((⟨#[97, 114, 114, 97, 121]⟩ : ByteArray)))], [.v (.string ((⟨#[105, 102]⟩ : ByteArray)))], [.v (.string ((⟨#[102, 111, 114, 107]⟩ : ByteArray)))], [.v (.string ((⟨#[101, 108, 115, 101]⟩ : ByteArray)))], [.v (.string ((⟨#[101, 110, 100]⟩ : ByteArray)))], [.v (.string ((⟨#[119, 104, 105, 108, 101]⟩ : ByteArray)))], [.v (.string ((⟨#[117, 110, 114, 111, 108, 108]⟩ : ByteArray)))], [.v (.string ((⟨#[97, 115, 115, 101, 114, 116]⟩ : ByteArray)))], [.v (.string ((⟨#[97, 115, 115, 117, 109, 101]⟩ : ByteArray)))], [.v (.string ((⟨#[105, 110, 112, 117, 116]⟩ : ByteArray)))], [.v (.string ((⟨#[115, 112, 108, 105, 116]⟩ : ByteArray)))], [.v (.string ((⟨#[109, 101, 114, 103, 101]⟩ : ByteArray)))], [.v (.string ((⟨#[116, 114, 117, 101]⟩ : ByteArray)))], [.v (.string ((⟨#[102, 97, 108, 115, 101]⟩ : ByteArray)))]] = List.map strc (keys) by rfl)) .nil)) (show 0 ≤ keys.length ∧ allTo 0 (fun i => !strEq (keys.getD i default) s) = true by exact ⟨by omega, rfl⟩)
 ·rintro ⟨j, q4, q5⟩ hI
  have hI : j ≤ keys.length ∧ allTo j (fun i => !strEq (keys.getD i default) s) = true := hI
  have hk9 : keys.length = 16 := rfl
  dsimp only
  refine .seq <| .seq <| .rs fun k6 => .mv rfl <| .mv rfl <| .g (fun _ τ => ⟨_, .len (.no rfl) rfl (z := (keys.length : Int)) t22 rfl rfl rfl (.ref _ _ _ _ _ rfl) (map_len _ _) rfl τ⟩) <| .bi rfl <| .z ?_
  refine .cond (t := decide ((j : Int) < (keys.length : Int))) rfl (fun c0 => ?_) (fun c0 => ?_)
  ·have c0 := of_decide_eq_true c0
   refine .skip <| .seq <| .block <| .seq <| .rs fun k7 => .mv rfl <| .mv rfl <| .g (fun _ τ => ⟨_, .indexAddr (.no rfl) rfl (j) t22 rfl t9 rfl rfl rfl (.ref _ _ _ _ _ rfl) rfl rfl rfl (map_get (by omega)) rfl rfl τ⟩) <| .ld t9 rfl (.eptr _ _ _ _ _ _ _ _ _ rfl (map_get (by omega))) rfl ?_
   refine .mv rfl <| .bi rfl <| .z ?_
   refine .cond (t := (keys.getD j default).toList == s.toList) rfl (fun c1 => ?_) (fun c1 => ?_)
   ·have c1 := c1
    refine .seq <| .rs fun k8 => .as rfl <| .z <| .ret ?_
    exact fin0 (.inr rfl) (.one (svB (show (true) = (isKey s) by exact (any_found (p := fun x => strEq x s) (j := j) (by omega) c1).symm)) .nil) (.dd .nil) rfl
   ·have c1 := c1
    refine .skip <| .rs fun k10 => .mv rfl <| .bi rfl <| .as rfl <| .z ?_
    exact .here ((j + 1), q4, q5) (.of (.cons rfl (.cons rfl (.cons (svI (show (IntKind.wrap .i64 ((j : Int) + 1)) = (((j + 1) : Int)) by first | rfl | omega | exact wrap_le (by omega) (by omega) | (rw [wrap_le (by omega) (by omega)]; omega))) .nil))) (.r rfl)) ⟨(show (j + 1) ≤ keys.length ∧ allTo (j + 1) (fun i => !strEq (keys.getD i default) s) = true by exact ⟨by omega, allTo_step hI.2 (by rw [show strEq (keys.getD j default) s = false from c1]; rfl)⟩), (show keys.length - (j + 1) < keys.length - j by omega)⟩
  ·have c0 := of_decide_eq_false c0
   refine .exit <| .seq <| .rs fun k11 => .as rfl <| .z <| .ret ?_
   exact fin0 (.inr rfl) (.one (svB (show (false) = (isKey s) by exact (any_none (p := fun x => strEq x s) (j := j) (by omega) hI.2).symm)) .nil) (.dd .nil) rfl
theorem c_l3Name (s : ByteArray) (hs : s.size ≤ 9223372036854775807) : Trip Tryz.prog 123 [(false, 1)] ([.v (.string (s))]) [(false, 1)] [.v (.bool (nmOk s))] [] := by
 refine Trip.of Tryz.func123 (by decide) (c := _) rfl rfl (Nat.le_of_ble_eq_true rfl) rfl (AftOk.nil _) <| .seq <| .rs fun k1 => .as rfl <| .z <| .seq <| .seq <| .rs fun k2 => .as rfl ?_
 refine .z <| .block ?_
 refine .loop (X := Nat) (fun ζ => .of [(0, .one (.d (.v (.string (s))))), (3, .one (.d (.v (.int .i64 ((ζ : Int))))))] []) (fun ζ => ζ ≤ s.size ∧ allTo ζ (fun i => decide (97 ≤ byteAt s i ∧ byteAt s i ≤ 122)) = true) (fun ζ => s.size - ζ) ?_ ?_
 ·skip
  exact .here 0 (.of (.cons rfl (.cons (svI (show (0) = ((0 : Int)) by first | rfl | omega | exact wrap_le (by omega) (by omega) | (rw [wrap_le (by omega) (by omega)]; omega))) .nil)) .nil) (show 0 ≤ s.size ∧ allTo 0 (fun i => decide (97 ≤ byteAt s i ∧ byteAt s i ≤ 122)) = true by exact ⟨by omega, rfl⟩)
 ·rintro j hI
  have hI : j ≤ s.size ∧ allTo j (fun i => decide (97 ≤ byteAt s i ∧ byteAt s i ≤ 122)) = true := hI
  refine .seq <| .seq <| .rs fun k3 => .mv rfl <| .mv rfl <| .g (fun _ τ => ⟨_, .lenStr (.no rfl) rfl t9 rfl rfl rfl rfl rfl τ⟩) <| .bi rfl <| .z ?_
  refine .cond (t := decide ((j : Int) < (s.size : Int))) rfl (fun c0 => ?_) (fun c0 => ?_)
  ·have c0 := of_decide_eq_true c0
   refine .skip <| .seq <| .block <| .seq ?_
   refine .reg (X := Unit) (fun ζ => .of [(0, .one (.d (.v (.string (s))))), (3, .one (.d (.v (.int .i64 ((j : Int)))))), (19, .one (.d (.v (.bool ((decide ((byteAt s j) < 97) || decide ((byteAt s j) > 122)))))))] []) [⟨[0], some 10, [], []⟩, ⟨[3], some 11, [], []⟩, ⟨[10, 11], some 12, [], []⟩, ⟨[12], some 13, [], []⟩, ⟨[13], some 14, [], []⟩, ⟨[14, 0], some 15, [], []⟩, ⟨[14, 3], some 16, [], []⟩, ⟨[14, 15, 16], some 17, [], []⟩, ⟨[14, 17], some 18, [], []⟩, ⟨[14, 18], some 19, [], []⟩] (fun k4 => ?_) ?_
   ·skip
    refine .move (.no rfl) rfl rfl rfl rfl <| .move (.no rfl) rfl rfl rfl rfl <| .indexStr (.no rfl) rfl (z := byteAt s j) (j) t9 rfl rfl rfl rfl rfl (b8_get (by omega)) rfl rfl <| .bin (.no rfl) rfl rfl rfl rfl rfl rfl <| .moveB (.no rfl) rfl rfl rfl rfl fun b5 g4_4 => ?_
    cases b5
    ·skip
     refine .move (.on rfl rfl rfl rfl rfl) rfl rfl rfl rfl <| .move (.on rfl rfl rfl rfl rfl) rfl rfl rfl rfl <| .indexStr (.on rfl rfl rfl rfl rfl) rfl (z := byteAt s j) (j) t9 rfl rfl rfl rfl rfl (b8_get (by omega)) rfl rfl <| .bin (.on rfl rfl rfl rfl rfl) rfl rfl rfl rfl rfl rfl <| .pick (.no rfl) rfl rfl rfl rfl rfl ?_
     exact .fin () (.of (.cons rfl (.cons rfl (.cons (svB (show (decide ((byteAt s j) > 122)) = ((decide ((byteAt s j) < 97) || decide ((byteAt s j) > 122))) by first | (simp only [g4_4, Bool.true_or, Bool.false_or, Bool.true_and, Bool.false_and, Bool.not_true, Bool.not_false]; done) | (simp [g4_4]; done) | (exfalso; simp_all; done))) .nil))) .nil)
    ·skip
     refine .off rfl rfl rfl rfl rfl rfl rfl <| .off rfl rfl rfl rfl rfl rfl rfl <| .off rfl rfl rfl rfl rfl rfl rfl <| .off rfl rfl rfl rfl rfl rfl rfl <| .pick (.no rfl) rfl rfl rfl rfl rfl ?_
     exact .fin () (.of (.cons rfl (.cons rfl (.cons (svB (show (true) = ((decide ((byteAt s j) < 97) || decide ((byteAt s j) > 122))) by first | (simp only [g4_4, Bool.true_or, Bool.false_or, Bool.true_and, Bool.false_and, Bool.not_true, Bool.not_false]; done) | (simp [g4_4]; done) | (exfalso; simp_all; done))) .nil))) .nil)
   intro _
   refine .cond (t := (decide ((byteAt s j) < 97) || decide ((byteAt s j) > 122))) rfl (fun c1 => ?_) (fun c1 => ?_)
   ·have c1 := (oT dT dT) c1
    refine .seq <| .rs fun k6 => .as rfl <| .z <| .ret ?_
    exact fin0 (.inr rfl) (.one (svB (show (false) = (nmOk s) by (simp only [nmOk, letters]; rw [allTo_fail (j := j) (by omega) (by have h9 := byteAt_le s j; simp only [decide_eq_false_iff_not]; omega)]; rfl))) .nil) (.dd .nil) rfl
   ·have c1 := (oF dF dF) c1
    refine .skip <| .rs fun k8 => .mv rfl <| .bi rfl <| .as rfl <| .z ?_
    exact .here (j + 1) (.of (.cons rfl (.cons (svI (show (IntKind.wrap .i64 ((j : Int) + 1)) = (((j + 1) : Int)) by first | rfl | omega | exact wrap_le (by omega) (by omega) | (rw [wrap_le (by omega) (by omega)]; omega))) .nil)) .nil) ⟨(show (j + 1) ≤ s.size ∧ allTo (j + 1) (fun i => decide (97 ≤ byteAt s i ∧ byteAt s i ≤ 122)) = true by exact ⟨by omega, allTo_step hI.2 (by simp only [decide_eq_true_eq]; omega)⟩), (show s.size - (j + 1) < s.size - j by omega)⟩
  ·have c0 := of_decide_eq_false c0
   refine .exit <| .seq ?_
   refine .reg (X := Unit) (fun ζ => .of [(2, .one (.d (.v (.bool ((inR (s.size : Int) 1 8 && !(isKey s)))))))] []) [⟨[0], some 20, [], []⟩, ⟨[20], some 21, [], []⟩, ⟨[21], some 22, [], []⟩, ⟨[22], some 23, [], []⟩, ⟨[23, 0], some 24, [], []⟩, ⟨[23, 24], some 25, [], []⟩, ⟨[23, 25], some 26, [], []⟩, ⟨[23, 26], some 27, [], []⟩, ⟨[27], some 2, [], []⟩] (fun k9 => ?_) ?_
   ·skip
    refine .move (.no rfl) rfl rfl rfl rfl <| .lenStr (.no rfl) rfl t9 rfl rfl rfl rfl rfl <| .call (.no rfl) rfl [] [] (c_l1In (s.size : Int) 1 8) rfl rfl rfl rfl rfl (.dd (.dd (.dd .nil))) rfl rfl (fun h => absurd rfl h) (.own [22, 0] .nil) (.nil) rfl rfl rfl (by simp) rfl rfl rfl <| .moveB (.no rfl) rfl rfl rfl rfl fun b10 g6_3 => ?_
    cases b10
    ·skip
     refine .off rfl rfl rfl rfl rfl rfl rfl <| .off rfl rfl rfl rfl rfl rfl rfl <| .off rfl rfl rfl rfl rfl rfl rfl <| .pick (.no rfl) rfl rfl rfl rfl rfl <| .assign (.no rfl) rfl rfl rfl rfl ?_
     exact .fin () (.of (.cons (svB (show (false) = ((inR (s.size : Int) 1 8 && !(isKey s))) by first | (simp only [g6_3, Bool.true_or, Bool.false_or, Bool.true_and, Bool.false_and, Bool.not_true, Bool.not_false]; done) | (simp [g6_3]; done) | (exfalso; simp_all; done))) .nil) .nil)
    ·skip
     refine .move (.on rfl rfl rfl rfl rfl) rfl rfl rfl rfl <| .call (.on rfl rfl rfl rfl rfl) rfl [] [] (c_l3Key s) rfl rfl rfl rfl rfl (.dd .nil) rfl rfl (fun h => absurd rfl h) (.own [25, 0] .nil) (.nil) rfl rfl rfl (by simp) rfl rfl rfl <| .un (.on rfl rfl rfl rfl rfl) rfl rfl rfl rfl rfl <| .pick (.no rfl) rfl rfl rfl rfl rfl <| .assign (.no rfl) rfl rfl rfl rfl ?_
     exact .fin () (.of (.cons (svB (show (!(isKey s)) = ((inR (s.size : Int) 1 8 && !(isKey s))) by first | (simp only [g6_3, Bool.true_or, Bool.false_or, Bool.true_and, Bool.false_and, Bool.not_true, Bool.not_false]; done) | (simp [g6_3]; done) | (exfalso; simp_all; done))) .nil) .nil)
   intro _
   refine .ret ?_
   exact fin0 (.inr rfl) (.one (svB (show ((inR (s.size : Int) 1 8 && !(isKey s))) = (nmOk s) by (have hj : j = s.size := (by omega); subst hj; simp only [nmOk, letters]; rw [hI.2]; first | rfl | simp_all))) .nil) (.dd .nil) rfl
theorem c_l3Place (l : List ByteArray) (s : ByteArray) : Trip Tryz.prog 124 [(false, 1), (false, 1)] ([.sl false 9 1 (List.map strc (l))] ++ [.v (.string (s))]) [(false, 1)] [.v (.int .i64 (place l s))] [] := by
 refine Trip.of Tryz.func124 (by decide) (c := _) rfl rfl (Nat.le_of_ble_eq_true rfl) rfl (AftOk.nil _) <| .sl (t := 0) rfl fun hs1l => .seq <| .rs fun k2 => .as rfl <| .z <| .seq <| .seq <| .rs fun k3 => ?_
 refine .as rfl <| .z <| .block ?_
 refine .loop (X := Nat) (fun ζ => .of [(0, .one (.d (.sl false 9 1 (List.map strc (l))))), (1, .one (.d (.v (.string (s))))), (5, .one (.d (.v (.int .i64 ((ζ : Int))))))] []) (fun ζ => ζ ≤ l.length ∧ allTo ζ (fun i => !strEq (l.getD i default) s) = true) (fun ζ => l.length - ζ) ?_ ?_
 ·skip
  exact .here 0 (.of (.cons rfl (.cons rfl (.cons (svI (show (0) = ((0 : Int)) by first | rfl | omega | exact wrap_le (by omega) (by omega) | (rw [wrap_le (by omega) (by omega)]; omega))) .nil))) .nil) (show 0 ≤ l.length ∧ allTo 0 (fun i => !strEq (l.getD i default) s) = true by exact ⟨by omega, rfl⟩)
 ·rintro j hI
  have hI : j ≤ l.length ∧ allTo j (fun i => !strEq (l.getD i default) s) = true := hI
  refine .seq <| .seq <| .rs fun k4 => .mv rfl <| .mv rfl <| .g (fun _ τ => ⟨_, .len (.no rfl) rfl (z := (l.length : Int)) t22 rfl rfl rfl (.d _ _) (map_len _ _) rfl τ⟩) <| .bi rfl <| .z ?_
  refine .cond (t := decide ((j : Int) < (l.length : Int))) rfl (fun c0 => ?_) (fun c0 => ?_)
  ·have c0 := of_decide_eq_true c0
   refine .skip <| .seq <| .block <| .seq <| .rs fun k5 => .mv rfl <| .mv rfl <| .g (fun _ τ => ⟨_, .indexAddr (.no rfl) rfl (j) t22 rfl t9 rfl rfl rfl (.d _ _) rfl rfl rfl (map_get (by omega)) rfl rfl τ⟩) <| .ld t9 rfl (.d _) rfl ?_
   refine .mv rfl <| .bi rfl <| .z ?_
   refine .cond (t := (l.getD j default).toList == s.toList) rfl (fun c1 => ?_) (fun c1 => ?_)
   ·have c1 := c1
    refine .seq <| .rs fun k6 => .mv rfl <| .as rfl <| .z <| .ret ?_
    exact fin0 (.inr rfl) (.one (svI (show ((j : Int)) = (place l s) by exact (idx_found (p := fun x => strEq x s) (by omega) hI.2 c1).symm)) .nil) (.dd .nil) rfl
   ·have c1 := c1
    refine .skip <| .rs fun k8 => .mv rfl <| .bi rfl <| .as rfl <| .z ?_
    exact .here (j + 1) (.of (.cons rfl (.cons rfl (.cons (svI (show (IntKind.wrap .i64 ((j : Int) + 1)) = (((j + 1) : Int)) by first | rfl | omega | exact wrap_le (by omega) (by omega) | (rw [wrap_le (by omega) (by omega)]; omega))) .nil))) .nil) ⟨(show (j + 1) ≤ l.length ∧ allTo (j + 1) (fun i => !strEq (l.getD i default) s) = true by exact ⟨by omega, allTo_step hI.2 (by rw [show strEq (l.getD j default) s = false from c1]; rfl)⟩), (show l.length - (j + 1) < l.length - j by omega)⟩
  ·have c0 := of_decide_eq_false c0
   refine .exit <| .seq <| .rs fun k9 => .as rfl <| .z <| .ret ?_
   exact fin0 (.inr rfl) (.one (svI (show (-1) = (place l s) by exact (idx_none (p := fun x => strEq x s) (j := j) (by omega) hI.2).symm)) .nil) (.dd .nil) rfl
theorem c_l6List (e : Env) (hb : e.ints.length ≤ 1048576 ∧ e.arrs.length ≤ 1048576) : Trip Tryz.prog 168 [(true, 3)] (Env.c98 e) [(false, 1)] [.sl true 119 2 (List.map Iv.c (e.ints ++ e.arrs))] [] := by
 refine Trip.of Tryz.func168 (by decide) (c := _) rfl rfl (Nat.le_of_ble_eq_true rfl) rfl (AftOk.nil _) <| .sla (t := 0) 1 rfl rfl fun hs1l => .sla (t := 0) 2 rfl rfl fun hs2l => .seq <| .rs fun k3 => .g (fun _ τ => ⟨_, .box (.no rfl) rfl rfl rfl rfl rfl τ⟩) <| .as rfl <| .z <| .seq ?_
 refine .regD (X := Nat) (by kernel_rfl) (fun ζ => .of [(2, .one (.ref [3] (ζ)))] [([3], (ζ, ζ, .row 119 2 (List.map Iv.c (e.ints ++ e.arrs))))]) [⟨[], some 3, [], [[3]]⟩, ⟨[1], some 4, [], []⟩, ⟨[4], some 5, [[1]], []⟩, ⟨[3, 5], some 6, [[3]], [[3]]⟩, ⟨[1], some 7, [], []⟩, ⟨[7], some 8, [[1]], []⟩, ⟨[6, 8], some 9, [[3]], [[3]]⟩, ⟨[9], some 2, [], []⟩] (by kernel_rfl) (fun k4 => ?_) ?_
 ·skip
  refine .buildSlice (.no rfl) rfl (els := []) t96 rfl z119 rfl rfl rfl rfl rfl rfl rfl rfl (by simp [i119]) .nil rfl rfl rfl <| .fieldAddrP (.no rfl) rfl t98 rfl rfl t96 rfl rfl rfl rfl <| .load (.no rfl) rfl t96 rfl rfl (.ptr _ _ _ _ _ rfl) rfl rfl rfl rfl <| .append (.no rfl) rfl (l3 := List.map Iv.c (e.ints)) t96 rfl z119 rfl rfl rfl rfl rfl rfl rfl rfl (.ref _ _ _ _ rfl) (.ro _ _) rfl (by simp [i119]; omega) (List.nil_append _) rfl rfl <| .fieldAddrP (.no rfl) rfl t98 rfl rfl t96 rfl rfl rfl rfl <| .load (.no rfl) rfl t96 rfl rfl (.ptr _ _ _ _ _ rfl) rfl rfl rfl rfl <| .append (.no rfl) rfl (l3 := List.map Iv.c (e.ints ++ e.arrs)) t96 rfl z119 rfl rfl rfl rfl rfl rfl rfl rfl (.ref _ _ _ _ rfl) (.ro _ _) rfl (by simp [i119]; omega) (map_app _ _ _) rfl rfl <| .assign (.no rfl) rfl rfl rfl rfl ?_
  exact .fin (k4 + 1 + 1 + 1 + 1 + 1 + 1) (.of (.r rfl) (.r rfl))
 intro g5
 refine .ret ?_
 exact fin1 (.inr rfl) [] [([3], (g5, g5, .row 119 2 (List.map Iv.c (e.ints ++ e.arrs))))] (.one rfl .nil) (.cons (.ref (.head _)) .nil) rfl rfl (.r rfl)
theorem c_l6Copy (e : Env) (hb : e.ints.length ≤ 1048576 ∧ e.arrs.length ≤ 1048576) : Trip Tryz.prog 140 [(true, 3)] (Env.c98 e) [(true, 3)] [.v (.bool (e.live)), .sl true 119 2 (List.map Iv.c (e.ints)), .sl true 119 2 (List.map Iv.c (e.arrs))] [] := by
 refine Trip.of Tryz.func140 (by decide) (c := _) rfl rfl (Nat.le_of_ble_eq_true rfl) rfl (AftOk.nil _) <| .sla (t := 0) 1 rfl rfl fun hs1l => .sla (t := 0) 2 rfl rfl fun hs2l => .seq <| .rs fun k3 => .g (fun _ τ => ⟨_, .box (.no rfl) rfl rfl rfl rfl rfl τ⟩) <| .g (fun _ τ => ⟨_, .alloc (.no rfl) rfl z98 rfl rfl rfl τ⟩) <| .z <| .seq ?_
 refine .regD (X := Nat × Nat × Nat) (by kernel_rfl) (fun ζ => .of [(2, .one (.ptr [2] (k3 + 1) 0))] [([2], (k3 + 1, ζ.1, .box [.d (.v (.bool (e.live))), .ref [5] (ζ.2.1), .ref [9] (ζ.2.2)])), ([5], (ζ.2.1, ζ.2.1, .row 119 2 (List.map Iv.c (e.ints)))), ([9], (ζ.2.2, ζ.2.2, .row 119 2 (List.map Iv.c (e.arrs))))]) [⟨[1], some 3, [], []⟩, ⟨[3], some 4, [[1]], []⟩, ⟨[], some 5, [], [[5]]⟩, ⟨[1], some 6, [], []⟩, ⟨[6], some 7, [[1]], []⟩, ⟨[5, 7], some 8, [[5]], [[5]]⟩, ⟨[], some 9, [], [[9]]⟩, ⟨[1], some 10, [], []⟩, ⟨[10], some 11, [[1]], []⟩, ⟨[9, 11], some 12, [[9]], [[9]]⟩, ⟨[4, 8, 12], some 13, [], []⟩, ⟨[2, 13], none, [[2]], [[2]]⟩] (by kernel_rfl) (fun k4 => ?_) ?_
 ·skip
  refine .fieldAddrP (.no rfl) rfl t98 rfl rfl t4 rfl rfl rfl rfl <| .load (.no rfl) rfl t4 rfl rfl (.ptr _ _ _ _ _ rfl) rfl rfl rfl rfl <| .buildSlice (.no rfl) rfl (els := []) t96 rfl z119 rfl rfl rfl rfl rfl rfl rfl rfl (by simp [i119]) .nil rfl rfl rfl <| .fieldAddrP (.no rfl) rfl t98 rfl rfl t96 rfl rfl rfl rfl <| .load (.no rfl) rfl t96 rfl rfl (.ptr _ _ _ _ _ rfl) rfl rfl rfl rfl <| .append (.no rfl) rfl (l3 := List.map Iv.c (e.ints)) t96 rfl z119 rfl rfl rfl rfl rfl rfl rfl rfl (.ref _ _ _ _ rfl) (.ro _ _) rfl (by simp [i119]; omega) (List.nil_append _) rfl rfl <| .buildSlice (.no rfl) rfl (els := []) t96 rfl z119 rfl rfl rfl rfl rfl rfl rfl rfl (by simp [i119]) .nil rfl rfl rfl <| .fieldAddrP (.no rfl) rfl t98 rfl rfl t96 rfl rfl rfl rfl <| .load (.no rfl) rfl t96 rfl rfl (.ptr _ _ _ _ _ rfl) rfl rfl rfl rfl ?_
  refine .append (.no rfl) rfl (l3 := List.map Iv.c (e.arrs)) t96 rfl z119 rfl rfl rfl rfl rfl rfl rfl rfl (.ref _ _ _ _ rfl) (.ro _ _) rfl (by simp [i119]; omega) (List.nil_append _) rfl rfl <| .build (.no rfl) rfl z98 rfl p98 rfl rfl rfl rfl <| .store (.no rfl) rfl t98 rfl rfl rfl rfl rfl rfl rfl rfl rfl ?_
  exact .fin (k4 + 1 + 1 + 1 + 1 + 1 + 1 + 1 + 1 + 1 + 1 + 1, k4 + 1 + 1 + 1 + 1 + 1, k4 + 1 + 1 + 1 + 1 + 1 + 1 + 1 + 1 + 1) (.of (.r rfl) (.r rfl))
 rintro ⟨g5, g6, g7⟩
 refine .ret ?_
 exact fin1 (.inr rfl) [] [([5], (g6, g6, .row 119 2 (List.map Iv.c (e.ints)))), ([9], (g7, g7, .row 119 2 (List.map Iv.c (e.arrs))))] (.cell (cells := [.d (.v (.bool (e.live))), .ref [5] (g6), .ref [9] (g7)]) rfl rfl t98 rfl rfl .nil) (.dd (.cons (.ref (.head _)) (.cons (.ref (.tail _ (.head _))) .nil))) rfl rfl (.r rfl)
end Go.Proofs

namespace Go.Proofs
open Go Go.Proofs Go.Ev

theorem c_sDeclOk (d : Decl) (hs : ∀ x ∈ Decl.names d, x.size ≤ 9223372036854775807) (hb : d.vars.length ≤ 1048576 ∧ d.flags.length ≤ 1048576 ∧ d.arrays.length ≤ 1048576) : Trip Tryz.prog 73 [(true, 3)] (Decl.c33 d) [(false, 1)] [.v (.bool (Decl.ok d))] [] := by
 refine Trip.of Tryz.func73 (by decide) (c := _) rfl rfl (Nat.le_of_ble_eq_true rfl) rfl (AftOk.nil _) <| .sla (t := 0) 0 rfl rfl fun hs1l => .sla (t := 0) 1 rfl rfl fun hs2l => .sla (t := 0) 2 rfl rfl fun hs3l => .seq <| .rs fun k4 => .g (fun _ τ => ⟨_, .box (.no rfl) rfl rfl rfl rfl rfl τ⟩) <| .as rfl <| .z ?_
 refine .seq <| .seq ?_
 refine .reg (X := Unit) (fun ζ => .of [(1, .one (.ptr [1] (k4) 0)), (21, .one (.d (.v (.bool (((decide ((d.vars.length : Int) > 5) || decide ((d.flags.length : Int) > 3)) || decide ((d.arrays.length : Int) > 2)))))))] [([1], (k4, k4, .box [.d (.sl false 9 1 (List.map strc (d.vars))), .d (.sl false 9 1 (List.map strc (d.flags))), .d (.sl false 112 2 (List.map Arr.c (d.arrays)))]))]) [⟨[1], some 6, [], []⟩, ⟨[6], some 7, [[1]], []⟩, ⟨[7], some 8, [], []⟩, ⟨[8], some 9, [], []⟩, ⟨[9], some 10, [], []⟩, ⟨[10, 1], some 11, [], []⟩, ⟨[10, 11], some 12, [[1]], []⟩, ⟨[10, 12], some 13, [], []⟩, ⟨[10, 13], some 14, [], []⟩, ⟨[10, 14], some 15, [], []⟩, ⟨[15], some 16, [], []⟩, ⟨[16, 1], some 17, [], []⟩, ⟨[16, 17], some 18, [[1]], []⟩, ⟨[16, 18], some 19, [], []⟩, ⟨[16, 19], some 20, [], []⟩, ⟨[16, 20], some 21, [], []⟩] (fun k5 => ?_) ?_
 ·skip
  refine .fieldAddrP (.no rfl) rfl t33 rfl rfl t22 rfl rfl rfl rfl <| .load (.no rfl) rfl t22 rfl rfl (.ptr _ _ _ _ _ rfl) rfl rfl rfl rfl <| .len (.no rfl) rfl (z := (d.vars.length : Int)) t22 rfl rfl rfl (.d _ _) (map_len _ _) rfl <| .bin (.no rfl) rfl rfl rfl rfl rfl rfl <| .moveB (.no rfl) rfl rfl rfl rfl fun b6 g1_4 => ?_
  cases b6
  ·skip
   refine .fieldAddrP (.on rfl rfl rfl rfl rfl) rfl t33 rfl rfl t22 rfl rfl rfl rfl <| .load (.on rfl rfl rfl rfl rfl) rfl t22 rfl rfl (.ptr _ _ _ _ _ rfl) rfl rfl rfl rfl <| .len (.on rfl rfl rfl rfl rfl) rfl (z := (d.flags.length : Int)) t22 rfl rfl rfl (.d _ _) (map_len _ _) rfl <| .bin (.on rfl rfl rfl rfl rfl) rfl rfl rfl rfl rfl rfl <| .pick (.no rfl) rfl rfl rfl rfl rfl <| .moveB (.no rfl) rfl rfl rfl rfl fun b7 g1_10 => ?_
   cases b7
   ·skip
    refine .fieldAddrP (.on rfl rfl rfl rfl rfl) rfl t33 rfl rfl t31 rfl rfl rfl rfl <| .load (.on rfl rfl rfl rfl rfl) rfl t31 rfl rfl (.ptr _ _ _ _ _ rfl) rfl rfl rfl rfl <| .len (.on rfl rfl rfl rfl rfl) rfl (z := (d.arrays.length : Int)) t31 rfl rfl rfl (.d _ _) (map_len _ _) rfl <| .bin (.on rfl rfl rfl rfl rfl) rfl rfl rfl rfl rfl rfl <| .pick (.no rfl) rfl rfl rfl rfl rfl ?_
    exact .fin () (.of (.cons rfl (.cons (svB (show (decide ((d.arrays.length : Int) > 2)) = (((decide ((d.vars.length : Int) > 5) || decide ((d.flags.length : Int) > 3)) || decide ((d.arrays.length : Int) > 2))) by first | (simp only [g1_4, g1_10, Bool.true_or, Bool.false_or, Bool.true_and, Bool.false_and, Bool.not_true, Bool.not_false]; done) | (simp [g1_4, g1_10]; done) | (exfalso; simp_all; done))) .nil)) (.r rfl))
   ·skip
    refine .off rfl rfl rfl rfl rfl rfl rfl <| .off rfl rfl rfl rfl rfl rfl rfl <| .off rfl rfl rfl rfl rfl rfl rfl <| .off rfl rfl rfl rfl rfl rfl rfl <| .pick (.no rfl) rfl rfl rfl rfl rfl ?_
    exact .fin () (.of (.cons rfl (.cons (svB (show (true) = (((decide ((d.vars.length : Int) > 5) || decide ((d.flags.length : Int) > 3)) || decide ((d.arrays.length : Int) > 2))) by first | (simp only [g1_4, g1_10, Bool.true_or, Bool.false_or, Bool.true_and, Bool.false_and, Bool.not_true, Bool.not_false]; done) | (simp [g1_4, g1_10]; done) | (exfalso; simp_all; done))) .nil)) (.r rfl))
  ·skip
   refine .off rfl rfl rfl rfl rfl rfl rfl <| .off rfl rfl rfl rfl rfl rfl rfl <| .off rfl rfl rfl rfl rfl rfl rfl <| .off rfl rfl rfl rfl rfl rfl rfl <| .pick (.no rfl) rfl rfl rfl rfl rfl <| .move (.no rfl) rfl rfl rfl rfl <| .off rfl rfl rfl rfl rfl rfl rfl <| .off rfl rfl rfl rfl rfl rfl rfl <| .off rfl rfl rfl rfl rfl rfl rfl ?_
   refine .off rfl rfl rfl rfl rfl rfl rfl <| .pick (.no rfl) rfl rfl rfl rfl rfl ?_
   exact .fin () (.of (.cons rfl (.cons (svB (show (true) = (((decide ((d.vars.length : Int) > 5) || decide ((d.flags.length : Int) > 3)) || decide ((d.arrays.length : Int) > 2))) by first | (simp only [g1_4, Bool.true_or, Bool.false_or, Bool.true_and, Bool.false_and, Bool.not_true, Bool.not_false]; done) | (simp [g1_4]; done) | (exfalso; simp_all; done))) .nil)) (.r rfl))
 intro _
 refine .cond (t := ((decide ((d.vars.length : Int) > 5) || decide ((d.flags.length : Int) > 3)) || decide ((d.arrays.length : Int) > 2))) rfl (fun c0 => ?_) (fun c0 => ?_)
 ·have c0 := (oT (oT dT dT) dT) c0
  refine .seq <| .rs fun k8 => .as rfl <| .z <| .ret ?_
  exact fin0 (.inr rfl) (.one (svB (show (false) = (Decl.ok d) by exact (Decl.ok_ne (by omega)).symm)) .nil) (.dd .nil) rfl
 ·have c0 := (oF (oF dF dF) dF) c0
  refine .skip <| .seq ?_
  refine .regD (X := Nat) (by kernel_rfl) (fun ζ => .of [(1, .one (.ptr [1] (k4) 0)), (3, .one (.ref [22] (ζ)))] [([1], (k4, k4, .box [.d (.sl false 9 1 (List.map strc (d.vars))), .d (.sl false 9 1 (List.map strc (d.flags))), .d (.sl false 112 2 (List.map Arr.c (d.arrays)))])), ([22], (ζ, ζ, .row 9 1 (List.map strc (d.vars ++ d.flags))))]) [⟨[], some 22, [], [[22]]⟩, ⟨[1], some 23, [], []⟩, ⟨[23], some 24, [[1]], []⟩, ⟨[22, 24], some 25, [[22]], [[22]]⟩, ⟨[1], some 26, [], []⟩, ⟨[26], some 27, [[1]], []⟩, ⟨[25, 27], some 28, [[22]], [[22]]⟩, ⟨[28], some 3, [], []⟩] (by kernel_rfl) (fun k10 => ?_) ?_
  ·skip
   refine .buildSlice (.no rfl) rfl (els := []) t22 rfl z9 rfl rfl rfl rfl rfl rfl rfl rfl (by simp [i9]) .nil rfl rfl rfl <| .fieldAddrP (.no rfl) rfl t33 rfl rfl t22 rfl rfl rfl rfl <| .load (.no rfl) rfl t22 rfl rfl (.ptr _ _ _ _ _ rfl) rfl rfl rfl rfl <| .append (.no rfl) rfl (l3 := List.map strc (d.vars)) t22 rfl z9 rfl rfl rfl rfl rfl rfl rfl rfl (.ref _ _ _ _ rfl) (.ro _ _) rfl (by simp [i9]; omega) (List.nil_append _) rfl rfl <| .fieldAddrP (.no rfl) rfl t33 rfl rfl t22 rfl rfl rfl rfl <| .load (.no rfl) rfl t22 rfl rfl (.ptr _ _ _ _ _ rfl) rfl rfl rfl rfl <| .append (.no rfl) rfl (l3 := List.map strc (d.vars ++ d.flags)) t22 rfl z9 rfl rfl rfl rfl rfl rfl rfl rfl (.ref _ _ _ _ rfl) (.ro _ _) rfl (by simp [i9]; omega) (map_app _ _ _) rfl rfl <| .assign (.no rfl) rfl rfl rfl rfl ?_
   exact .fin (k10 + 1 + 1 + 1 + 1 + 1 + 1) (.of (.r rfl) (.r rfl))
  intro g11
  refine .seq <| .seq <| .rs fun k12 => .as rfl <| .z <| .block ?_
  refine .loop (X := Nat × Nat × Nat) (fun ζ => .of [(1, .one (.ptr [1] (k4) 0)), (3, .one (.ref [22] (ζ.2.1))), (4, .one (.d (.v (.int .i64 ((ζ.1 : Int))))))] [([1], (k4, k4, .box [.d (.sl false 9 1 (List.map strc (d.vars))), .d (.sl false 9 1 (List.map strc (d.flags))), .d (.sl false 112 2 (List.map Arr.c (d.arrays)))])), ([22], (ζ.2.1, ζ.2.2, .row 9 1 (List.map strc (d.vars ++ d.flags ++ (d.arrays.take ζ.1).map Arr.name))))]) (fun ζ => ζ.1 ≤ d.arrays.length ∧ allTo ζ.1 (fun i => inR (d.arrays.getD i default).size 1 16) = true) (fun ζ => d.arrays.length - ζ.1) ?_ ?_
  ·skip
   exact .here (0, g11, g11) (.of (.cons rfl (.cons rfl (.cons (svI (show (0) = ((0 : Int)) by first | rfl | omega | exact wrap_le (by omega) (by omega) | (rw [wrap_le (by omega) (by omega)]; omega))) .nil))) (.cons rfl (.cons (rowE (show List.map strc (d.vars ++ d.flags) = List.map strc (d.vars ++ d.flags ++ (d.arrays.take 0).map Arr.name) by first | (simp; done) | (rw [List.append_assoc (d.vars ++ d.flags), take_step (f := Arr.name) (by omega)]) | (simp only [Decl.names]; rw [List.take_of_length_le (by omega)]))) .nil))) (show 0 ≤ d.arrays.length ∧ allTo 0 (fun i => inR (d.arrays.getD i default).size 1 16) = true by exact ⟨by omega, rfl⟩)
  ·rintro ⟨j, q13, q14⟩ hI
   have hI : j ≤ d.arrays.length ∧ allTo j (fun i => inR (d.arrays.getD i default).size 1 16) = true := hI
   dsimp only
   refine .seq <| .seq <| .rs fun k15 => .mv rfl <| .fp t33 t31 rfl <| .ld t31 rfl (.ptr _ _ _ _ _ rfl) rfl <| .g (fun _ τ => ⟨_, .len (.no rfl) rfl (z := (d.arrays.length : Int)) t31 rfl rfl rfl (.d _ _) (map_len _ _) rfl τ⟩) <| .bi rfl <| .z ?_
   refine .cond (t := decide ((j : Int) < (d.arrays.length : Int))) rfl (fun c1 => ?_) (fun c1 => ?_)
   ·have c1 := of_decide_eq_true c1
    refine .skip <| .seq <| .block <| .seq <| .seq <| .rs fun k16 => .fp t33 t31 rfl <| .ld t31 rfl (.ptr _ _ _ _ _ rfl) rfl <| .mv rfl ?_
    refine .g (fun _ τ => ⟨_, .indexAddr (.no rfl) rfl (j) t31 rfl t112 rfl rfl rfl (.d _ _) rfl rfl rfl (map_get (by omega)) rfl rfl τ⟩) <| .g (fun _ τ => ⟨_, .fieldAddr (.no rfl) rfl t112 rfl rfl t2 rfl rfl rfl rfl [] (by simp) (by intro _ _ _ h; cases h) rfl rfl τ⟩) <| .ld t2 rfl (.d _) rfl <| .c0 (c_l1In ((d.arrays.getD j default).size) 1 16) rfl (.dd (.dd (.dd .nil))) (.own [42, 0] .nil) rfl <| .un rfl <| .z ?_
    refine .cond (t := !(inR ((d.arrays.getD j default).size) 1 16)) rfl (fun c2 => ?_) (fun c2 => ?_)
    ·have c2 := (nT id) c2
     refine .seq <| .rs fun k17 => .as rfl <| .z <| .ret ?_
     exact fin0 (.inr rfl) (.one (svB (show (false) = (Decl.ok d) by exact (Decl.ok_size (j := j) (by omega) c2).symm)) .nil) (.dd .nil) rfl
    ·have c2 := (nF id) c2
     refine .skip <| .rs fun k19 => .mv rfl <| .fp t33 t31 rfl <| .ld t31 rfl (.ptr _ _ _ _ _ rfl) rfl <| .mv rfl <| .g (fun _ τ => ⟨_, .indexAddr (.no rfl) rfl (j) t31 rfl t112 rfl rfl rfl (.d _ _) rfl rfl rfl (map_get (by omega)) rfl rfl τ⟩) <| .g (fun _ τ => ⟨_, .fieldAddr (.no rfl) rfl t112 rfl rfl t9 rfl rfl rfl rfl [] (by simp) (by intro _ _ _ h; cases h) rfl rfl τ⟩) <| .ld t9 rfl (.d _) rfl ?_
     refine .g (fun _ τ => ⟨_, .buildSlice (.no rfl) rfl (els := [[.v (.string ((d.arrays.getD j default).name))]]) t22 rfl z9 rfl rfl rfl rfl rfl rfl rfl rfl (by simp [i9]) (.cons _ _ _ _ _ _ (.d _) .nil) rfl rfl rfl τ⟩) <| .g (fun _ τ => ⟨_, .append (.no rfl) rfl (l3 := List.map strc (d.vars ++ d.flags ++ (d.arrays.take j).map Arr.name ++ [(d.arrays.getD j default).name])) t22 rfl z9 rfl rfl rfl rfl rfl rfl rfl rfl (.ref _ _ _ _ rfl) (.take _ _ _ _ _ rfl) rfl (by simp [i9]; omega) (map_snoc _ _ _) rfl rfl τ⟩) <| .as rfl <| .z <| .rs fun k20 => .mv rfl <| .bi rfl <| .as rfl <| .z ?_
     exact .here ((j + 1), (k19 + 1 + 1 + 1 + 1 + 1 + 1 + 1 + 1), (k19 + 1 + 1 + 1 + 1 + 1 + 1 + 1 + 1)) (.of (.cons rfl (.cons (by show SV.one (.ref [22] (k19 + 1 + 1 + 1 + 1 + 1 + 1 + 1 + 1)) = SV.one (.ref [22] ((k19 + 1 + 1 + 1 + 1 + 1 + 1 + 1 + 1))); first | rfl | simp_all) (.cons (svI (show (IntKind.wrap .i64 ((j : Int) + 1)) = (((j + 1) : Int)) by first | rfl | omega | exact wrap_le (by omega) (by omega) | (rw [wrap_le (by omega) (by omega)]; omega))) .nil))) (.cons rfl (.cons (rowE (show List.map strc (d.vars ++ d.flags ++ (d.arrays.take j).map Arr.name ++ [(d.arrays.getD j default).name]) = List.map strc (d.vars ++ d.flags ++ (d.arrays.take (j + 1)).map Arr.name) by first | (simp; done) | (rw [List.append_assoc (d.vars ++ d.flags), take_step (f := Arr.name) (by omega)]) | (simp only [Decl.names]; rw [List.take_of_length_le (by omega)]))) .nil))) ⟨(show (j + 1) ≤ d.arrays.length ∧ allTo (j + 1) (fun i => inR (d.arrays.getD i default).size 1 16) = true by exact ⟨by omega, allTo_step hI.2 (by simpa using c2)⟩), (show d.arrays.length - (j + 1) < d.arrays.length - j by omega)⟩
   ·have c1 := of_decide_eq_false c1
    refine .exit <| .seq <| .seq <| .rs fun k21 => .as rfl <| .z <| .block ?_
    refine .loop (X := Nat × Nat × Nat) (fun ζ => .of [(3, .one (.ref [22] (ζ.2.1))), (5, .one (.d (.v (.int .i64 ((ζ.1 : Int))))))] [([22], (ζ.2.1, ζ.2.2, .row 9 1 (List.map strc (Decl.names d))))]) (fun ζ => ζ.1 ≤ (Decl.names d).length ∧ allTo ζ.1 (nameOk (Decl.names d)) = true) (fun ζ => (Decl.names d).length - ζ.1) ?_ ?_
    ·skip
     exact .here (0, q13, q14) (.of (.cons rfl (.cons (svI (show (0) = ((0 : Int)) by first | rfl | omega | exact wrap_le (by omega) (by omega) | (rw [wrap_le (by omega) (by omega)]; omega))) .nil)) (.cons (rowE (show List.map strc (d.vars ++ d.flags ++ (d.arrays.take j).map Arr.name) = List.map strc (Decl.names d) by first | (simp; done) | (rw [List.append_assoc (d.vars ++ d.flags), take_step (f := Arr.name) (by omega)]) | (simp only [Decl.names]; rw [List.take_of_length_le (by omega)]))) .nil)) (show 0 ≤ (Decl.names d).length ∧ allTo 0 (nameOk (Decl.names d)) = true by exact ⟨by omega, rfl⟩)
    ·rintro ⟨i, q22, q23⟩ hI
     have hI : i ≤ (Decl.names d).length ∧ allTo i (nameOk (Decl.names d)) = true := hI
     have hI0 := ‹j ≤ d.arrays.length ∧ _›
     have hn9 : (Decl.names d).length ≤ 3145728 := by simp [Decl.names]; omega
     dsimp only
     refine .seq <| .seq <| .rs fun k24 => .mv rfl <| .mv rfl <| .g (fun _ τ => ⟨_, .len (.no rfl) rfl (z := ((Decl.names d).length : Int)) t22 rfl rfl rfl (.ref _ _ _ _ _ rfl) (map_len _ _) rfl τ⟩) <| .bi rfl <| .z ?_
     refine .cond (t := decide ((i : Int) < ((Decl.names d).length : Int))) rfl (fun c3 => ?_) (fun c3 => ?_)
     ·have c3 := of_decide_eq_true c3
      refine .skip <| .seq <| .block <| .seq ?_
      refine .regD (X := Unit) (by kernel_rfl) (fun ζ => .of [(3, .one (.ref [22] (q22))), (5, .one (.d (.v (.int .i64 ((i : Int)))))), (75, .one (.d (.v (.bool ((!(nmOk ((Decl.names d).getD (i) default)) || decide ((place ((Decl.names d).take i) ((Decl.names d).getD (i) default)) ≥ 0)))))))] [([22], (q22, q23, .row 9 1 (List.map strc (Decl.names d))))]) [⟨[3], some 59, [], []⟩, ⟨[5], some 60, [], []⟩, ⟨[59, 60], some 61, [[22]], []⟩, ⟨[61], some 62, [[22]], []⟩, ⟨[62], some 63, [], []⟩, ⟨[63], some 64, [], []⟩, ⟨[64], some 65, [], []⟩, ⟨[65, 3], some 66, [], []⟩, ⟨[65, 5], some 67, [], []⟩, ⟨[65, 66, 67], some 68, [[22]], []⟩, ⟨[65, 3], some 69, [], []⟩, ⟨[65, 5], some 70, [], []⟩, ⟨[65, 69, 70], some 71, [[22]], []⟩, ⟨[65, 71], some 72, [[22]], []⟩, ⟨[65, 68, 72], some 73, [[22]], []⟩, ⟨[65, 73], some 74, [], []⟩, ⟨[65, 74], some 75, [], []⟩] (by kernel_rfl) (fun k25 => ?_) ?_
      ·skip
       refine .move (.no rfl) rfl rfl rfl rfl <| .move (.no rfl) rfl rfl rfl rfl <| .indexAddr (.no rfl) rfl (i) t22 rfl t9 rfl rfl rfl (.ref _ _ _ _ _ rfl) rfl rfl rfl (map_get (by omega)) rfl rfl <| .load (.no rfl) rfl t9 rfl rfl (.eptr _ _ _ _ _ _ _ _ _ rfl (map_get (by omega))) rfl rfl rfl rfl <| .call (.no rfl) rfl [] [] (c_l3Name ((Decl.names d).getD (i) default) (by exact hs _ (getD_mem (by omega)))) rfl rfl rfl rfl rfl (.dd .nil) rfl rfl (fun h => absurd rfl h) (.own [63, 0] .nil) (.nil) rfl rfl rfl (by simp) rfl rfl rfl <| .un (.no rfl) rfl rfl rfl rfl rfl <| .moveB (.no rfl) rfl rfl rfl rfl fun b26 g13_6 => ?_
       cases b26
       ·skip
        refine .move (.on rfl rfl rfl rfl rfl) rfl rfl rfl rfl <| .move (.on rfl rfl rfl rfl rfl) rfl rfl rfl rfl <| .slice (.on rfl rfl rfl rfl rfl) rfl (lv := 0) (hv := i) (m := q23) t22 rfl t9 rfl rfl (.ref _ _ _ _ _ rfl) rfl (by intro _ _ h; cases h; exact ⟨_, .head _⟩) (by exact rfl) (by exact ⟨_, rfl⟩) (Nat.zero_le _) (le_map (by omega)) rfl rfl <| .move (.on rfl rfl rfl rfl rfl) rfl rfl rfl rfl <| .move (.on rfl rfl rfl rfl rfl) rfl rfl rfl rfl <| .indexAddr (.on rfl rfl rfl rfl rfl) rfl (i) t22 rfl t9 rfl rfl rfl (.ref _ _ _ _ _ rfl) rfl rfl rfl (map_get (by omega)) rfl rfl <| .load (.on rfl rfl rfl rfl rfl) rfl t9 rfl rfl (.eptr _ _ _ _ _ _ _ _ _ rfl (map_get (by omega))) rfl rfl rfl rfl ?_
        refine .call (.on rfl rfl rfl rfl rfl) rfl [[22]] [([22], (q22, q23, .row 9 1 (List.map strc (Decl.names d))))] (c_l3Place ((Decl.names d).take i) ((Decl.names d).getD (i) default)) rfl rfl rfl rfl rfl (.cons (Reads.cut (Frz.of_erase (erase_takeo _ _ _ _ _ _ strc_e)) (le_map (by omega)) (.head _) (.head _)).gives (.dd .nil)) rfl rfl (fun _ => (ownCons (Owned.v _) ownNil)) (.own [73, 0] .nil) (.nil) rfl rfl rfl (AllH.get (.r rfl)) rfl rfl rfl <| .bin (.on rfl rfl rfl rfl rfl) rfl rfl rfl rfl rfl rfl <| .pick (.no rfl) rfl rfl rfl rfl rfl ?_
        exact .fin () (.of (.cons rfl (.cons rfl (.cons (svB (show (decide ((place ((Decl.names d).take i) ((Decl.names d).getD (i) default)) ≥ 0)) = ((!(nmOk ((Decl.names d).getD (i) default)) || decide ((place ((Decl.names d).take i) ((Decl.names d).getD (i) default)) ≥ 0))) by first | (simp only [g13_6, Bool.true_or, Bool.false_or, Bool.true_and, Bool.false_and, Bool.not_true, Bool.not_false]; done) | (simp [g13_6]; done) | (exfalso; simp_all; done))) .nil))) (.r rfl))
       ·skip
        refine .off rfl rfl rfl rfl rfl rfl rfl <| .off rfl rfl rfl rfl rfl rfl rfl <| .off rfl rfl rfl rfl rfl rfl rfl <| .off rfl rfl rfl rfl rfl rfl rfl <| .off rfl rfl rfl rfl rfl rfl rfl <| .off rfl rfl rfl rfl rfl rfl rfl <| .off rfl rfl rfl rfl rfl rfl rfl <| .off rfl rfl rfl rfl rfl rfl rfl <| .off rfl rfl rfl rfl rfl rfl rfl ?_
        refine .pick (.no rfl) rfl rfl rfl rfl rfl ?_
        exact .fin () (.of (.cons rfl (.cons rfl (.cons (svB (show (true) = ((!(nmOk ((Decl.names d).getD (i) default)) || decide ((place ((Decl.names d).take i) ((Decl.names d).getD (i) default)) ≥ 0))) by first | (simp only [g13_6, Bool.true_or, Bool.false_or, Bool.true_and, Bool.false_and, Bool.not_true, Bool.not_false]; done) | (simp [g13_6]; done) | (exfalso; simp_all; done))) .nil))) (.r rfl))
      intro _
      refine .cond (t := (!(nmOk ((Decl.names d).getD (i) default)) || decide ((place ((Decl.names d).take i) ((Decl.names d).getD (i) default)) ≥ 0))) rfl (fun c4 => ?_) (fun c4 => ?_)
      ·have c4 := (oT (nT id) dT) c4
       refine .seq <| .rs fun k27 => .as rfl <| .z <| .ret ?_
       exact fin0 (.inr rfl) (.one (svB (show (false) = (Decl.ok d) by exact (Decl.ok_name (j := i) (by omega) c4).symm)) .nil) (.dd .nil) rfl
      ·have c4 := (oF (nF id) dF) c4
       refine .skip <| .rs fun k29 => .mv rfl <| .bi rfl <| .as rfl <| .z ?_
       exact .here ((i + 1), q22, q23) (.of (.cons rfl (.cons (svI (show (IntKind.wrap .i64 ((i : Int) + 1)) = (((i + 1) : Int)) by first | rfl | omega | exact wrap_le (by omega) (by omega) | (rw [wrap_le (by omega) (by omega)]; omega))) .nil)) (.r rfl)) ⟨(show (i + 1) ≤ (Decl.names d).length ∧ allTo (i + 1) (nameOk (Decl.names d)) = true by exact ⟨by omega, allTo_step hI.2 (nameOk_of c4)⟩), (show (Decl.names d).length - (i + 1) < (Decl.names d).length - i by omega)⟩
     ·have c3 := of_decide_eq_false c3
      refine .exit <| .seq <| .rs fun k30 => .as rfl <| .z <| .ret ?_
      exact fin0 (.inr rfl) (.one (svB (show (true) = (Decl.ok d) by exact (Decl.ok_done (by omega) hI0.2 (by omega) (j := i) (by omega) hI.2).symm)) .nil) (.dd .nil) rfl
end Go.Proofs

namespace Go.Proofs
open Go Go.Proofs Go.Ev

theorem c_sEnvOk (d : Decl) (e : Env) (hs : ∀ x ∈ Decl.names d, x.size ≤ 9223372036854775807) (hb : d.vars.length ≤ 1048576 ∧ d.flags.length ≤ 1048576 ∧ d.arrays.length ≤ 1048576) (he : e.ints.length ≤ 1048576 ∧ e.arrs.length ≤ 1048576) : Trip Tryz.prog 126 [(true, 3), (true, 3)] (Decl.c33 d ++ Env.c98 e) [(false, 1)] [.v (.bool (Decl.ok d && Env.okIn d e))] [] := by
 refine Trip.of Tryz.func126 (by decide) (c := _) rfl rfl (Nat.le_of_ble_eq_true rfl) rfl (AftOk.nil _) <| .sla (t := 0) 0 rfl rfl fun hs1l => .sla (t := 0) 1 rfl rfl fun hs2l => .sla (t := 0) 2 rfl rfl fun hs3l => .sla (t := 1) 1 rfl rfl fun hs4l => .sla (t := 1) 2 rfl rfl fun hs5l => .seq <| .rs fun k6 => .g (fun _ τ => ⟨_, .box (.no rfl) rfl rfl rfl rfl rfl τ⟩) ?_
 refine .g (fun _ τ => ⟨_, .box (.no rfl) rfl rfl rfl rfl rfl τ⟩) <| .as rfl <| .z <| .seq <| .seq <| .rs fun k7 => .lda t33 rfl (.ptr _ _ _ _ _ rfl) rfl <| .c0 (c_sDeclOk d (by first | assumption | omega) (by first | assumption | omega)) rfl (.dd (.dd (.dd .nil))) (.own [8, 0] .nil) rfl <| .un rfl ?_
 refine .z ?_
 refine .cond (t := !(Decl.ok d)) rfl (fun c0 => ?_) (fun c0 => ?_)
 ·have c0 := (nT id) c0
  refine .seq <| .rs fun k8 => .as rfl <| .z <| .ret ?_
  exact fin0 (.inr rfl) (.one (svB (show (false) = (Decl.ok d && Env.okIn d e) by simp [c0])) .nil) (.dd .nil) rfl
 ·have c0 := (nF id) c0
  refine .skip <| .seq <| .seq <| .rs fun k10 => .fp t98 t4 rfl <| .ld t4 rfl (.ptr _ _ _ _ _ rfl) rfl <| .un rfl <| .z ?_
  refine .cond (t := !e.live) rfl (fun c1 => ?_) (fun c1 => ?_)
  ·have c1 := (nT id) c1
   refine .seq ?_
   refine .reg (X := Unit) (fun ζ => .of [(4, .one (.d (.v (.bool (((e.ints.length : Int) == 0 && (e.arrs.length : Int) == 0))))))] []) [⟨[3], some 13, [], []⟩, ⟨[13], some 14, [[3]], []⟩, ⟨[14], some 15, [], []⟩, ⟨[15], some 16, [], []⟩, ⟨[16], some 17, [], []⟩, ⟨[17, 3], some 18, [], []⟩, ⟨[17, 18], some 19, [[3]], []⟩, ⟨[17, 19], some 20, [], []⟩, ⟨[17, 20], some 21, [], []⟩, ⟨[17, 21], some 22, [], []⟩, ⟨[22], some 4, [], []⟩] (fun k11 => ?_) ?_
   ·skip
    refine .fieldAddrP (.no rfl) rfl t98 rfl rfl t96 rfl rfl rfl rfl <| .load (.no rfl) rfl t96 rfl rfl (.ptr _ _ _ _ _ rfl) rfl rfl rfl rfl <| .len (.no rfl) rfl (z := (e.ints.length : Int)) t96 rfl rfl rfl (.d _ _) (map_len _ _) rfl <| .bin (.no rfl) rfl rfl rfl rfl rfl rfl <| .moveB (.no rfl) rfl rfl rfl rfl fun b12 g4_4 => ?_
    cases b12
    ·skip
     refine .off rfl rfl rfl rfl rfl rfl rfl <| .off rfl rfl rfl rfl rfl rfl rfl <| .off rfl rfl rfl rfl rfl rfl rfl <| .off rfl rfl rfl rfl rfl rfl rfl <| .pick (.no rfl) rfl rfl rfl rfl rfl <| .assign (.no rfl) rfl rfl rfl rfl ?_
     exact .fin () (.of (.cons (svB (show (false) = (((e.ints.length : Int) == 0 && (e.arrs.length : Int) == 0)) by first | (simp only [g4_4, Bool.true_or, Bool.false_or, Bool.true_and, Bool.false_and, Bool.not_true, Bool.not_false]; done) | (simp [g4_4]; done) | (exfalso; simp_all; done))) .nil) .nil)
    ·skip
     refine .fieldAddrP (.on rfl rfl rfl rfl rfl) rfl t98 rfl rfl t96 rfl rfl rfl rfl <| .load (.on rfl rfl rfl rfl rfl) rfl t96 rfl rfl (.ptr _ _ _ _ _ rfl) rfl rfl rfl rfl <| .len (.on rfl rfl rfl rfl rfl) rfl (z := (e.arrs.length : Int)) t96 rfl rfl rfl (.d _ _) (map_len _ _) rfl <| .bin (.on rfl rfl rfl rfl rfl) rfl rfl rfl rfl rfl rfl <| .pick (.no rfl) rfl rfl rfl rfl rfl <| .assign (.no rfl) rfl rfl rfl rfl ?_
     exact .fin () (.of (.cons (svB (show ((e.arrs.length : Int) == 0) = (((e.ints.length : Int) == 0 && (e.arrs.length : Int) == 0)) by first | (simp only [g4_4, Bool.true_or, Bool.false_or, Bool.true_and, Bool.false_and, Bool.not_true, Bool.not_false]; done) | (simp [g4_4]; done) | (exfalso; simp_all; done))) .nil) .nil)
   intro _
   refine .ret ?_
   exact fin0 (.inr rfl) (.one (svB (show (((e.ints.length : Int) == 0 && (e.arrs.length : Int) == 0)) = (Decl.ok d && Env.okIn d e) by simp [c0, c1, Env.okIn])) .nil) (.dd .nil) rfl
  ·have c1 := (nF id) c1
   refine .skip <| .seq <| .seq ?_
   refine .reg (X := Unit) (fun ζ => .of [(3, .one (.ptr [3] (k6 + 1) 0)), (38, .one (.d (.v (.bool (((e.ints.length : Int) != (d.vars.length : Int) || (e.arrs.length : Int) != (d.arrays.length : Int)))))))] [([3], (k6 + 1, k6 + 1, .box [.d (.v (.bool (e.live))), .d (.sl false 119 2 (List.map Iv.c (e.ints))), .d (.sl false 119 2 (List.map Iv.c (e.arrs)))]))]) [⟨[3], some 23, [], []⟩, ⟨[23], some 24, [[3]], []⟩, ⟨[24], some 25, [], []⟩, ⟨[2], some 26, [], []⟩, ⟨[26], some 27, [[2]], []⟩, ⟨[27], some 28, [], []⟩, ⟨[25, 28], some 29, [], []⟩, ⟨[29], some 30, [], []⟩, ⟨[30, 3], some 31, [], []⟩, ⟨[30, 31], some 32, [[3]], []⟩, ⟨[30, 32], some 33, [], []⟩, ⟨[30, 2], some 34, [], []⟩, ⟨[30, 34], some 35, [[2]], []⟩, ⟨[30, 35], some 36, [], []⟩, ⟨[30, 33, 36], some 37, [], []⟩, ⟨[30, 37], some 38, [], []⟩] (fun k14 => ?_) ?_
   ·skip
    refine .fieldAddrP (.no rfl) rfl t98 rfl rfl t96 rfl rfl rfl rfl <| .load (.no rfl) rfl t96 rfl rfl (.ptr _ _ _ _ _ rfl) rfl rfl rfl rfl <| .len (.no rfl) rfl (z := (e.ints.length : Int)) t96 rfl rfl rfl (.d _ _) (map_len _ _) rfl <| .fieldAddrP (.no rfl) rfl t33 rfl rfl t22 rfl rfl rfl rfl <| .load (.no rfl) rfl t22 rfl rfl (.ptr _ _ _ _ _ rfl) rfl rfl rfl rfl <| .len (.no rfl) rfl (z := (d.vars.length : Int)) t22 rfl rfl rfl (.d _ _) (map_len _ _) rfl <| .bin (.no rfl) rfl rfl rfl rfl rfl rfl <| .moveB (.no rfl) rfl rfl rfl rfl fun b15 g5_7 => ?_
    cases b15
    ·skip
     refine .fieldAddrP (.on rfl rfl rfl rfl rfl) rfl t98 rfl rfl t96 rfl rfl rfl rfl <| .load (.on rfl rfl rfl rfl rfl) rfl t96 rfl rfl (.ptr _ _ _ _ _ rfl) rfl rfl rfl rfl <| .len (.on rfl rfl rfl rfl rfl) rfl (z := (e.arrs.length : Int)) t96 rfl rfl rfl (.d _ _) (map_len _ _) rfl <| .fieldAddrP (.on rfl rfl rfl rfl rfl) rfl t33 rfl rfl t31 rfl rfl rfl rfl <| .load (.on rfl rfl rfl rfl rfl) rfl t31 rfl rfl (.ptr _ _ _ _ _ rfl) rfl rfl rfl rfl <| .len (.on rfl rfl rfl rfl rfl) rfl (z := (d.arrays.length : Int)) t31 rfl rfl rfl (.d _ _) (map_len _ _) rfl <| .bin (.on rfl rfl rfl rfl rfl) rfl rfl rfl rfl rfl rfl <| .pick (.no rfl) rfl rfl rfl rfl rfl ?_
     exact .fin () (.of (.cons rfl (.cons (svB (show ((e.arrs.length : Int) != (d.arrays.length : Int)) = (((e.ints.length : Int) != (d.vars.length : Int) || (e.arrs.length : Int) != (d.arrays.length : Int))) by first | (simp only [g5_7, Bool.true_or, Bool.false_or, Bool.true_and, Bool.false_and, Bool.not_true, Bool.not_false]; done) | (simp [g5_7]; done) | (exfalso; simp_all; done))) .nil)) (.r rfl))
    ·skip
     refine .off rfl rfl rfl rfl rfl rfl rfl <| .off rfl rfl rfl rfl rfl rfl rfl <| .off rfl rfl rfl rfl rfl rfl rfl <| .off rfl rfl rfl rfl rfl rfl rfl <| .off rfl rfl rfl rfl rfl rfl rfl <| .off rfl rfl rfl rfl rfl rfl rfl <| .off rfl rfl rfl rfl rfl rfl rfl <| .pick (.no rfl) rfl rfl rfl rfl rfl ?_
     exact .fin () (.of (.cons rfl (.cons (svB (show (true) = (((e.ints.length : Int) != (d.vars.length : Int) || (e.arrs.length : Int) != (d.arrays.length : Int))) by first | (simp only [g5_7, Bool.true_or, Bool.false_or, Bool.true_and, Bool.false_and, Bool.not_true, Bool.not_false]; done) | (simp [g5_7]; done) | (exfalso; simp_all; done))) .nil)) (.r rfl))
   intro _
   refine .cond (t := ((e.ints.length : Int) != (d.vars.length : Int) || (e.arrs.length : Int) != (d.arrays.length : Int))) rfl (fun c2 => ?_) (fun c2 => ?_)
   ·have c2 := (oT bT bT) c2
    refine .seq <| .rs fun k16 => .as rfl <| .z <| .ret ?_
    exact fin0 (.inr rfl) (.one (svB (show (false) = (Decl.ok d && Env.okIn d e) by simp only [c0, Env.okIn, c1]; simp; omega)) .nil) (.dd .nil) rfl
   ·have c2 := (oF bF bF) c2
    refine .skip <| .seq <| .rs fun k18 => .lda t98 rfl (.ptr _ _ _ _ _ rfl) rfl <| .c0 (c_l6List e (by first | assumption | omega)) rfl (.dd (.dd (.dd .nil))) (.frz [40, 0] (Frz.of_erase (erase_slo _ _ _ _ _ _ Iv.c_e)) .nil) rfl <| .as rfl <| .z <| .seq <| .seq ?_
    refine .rs fun k19 => .as rfl <| .z <| .block ?_
    refine .loop (X := Nat) (fun ζ => .of [(5, .one (.d (.sl false 119 2 (List.map Iv.c (e.ints ++ e.arrs))))), (6, .one (.d (.v (.int .i64 ((ζ : Int))))))] []) (fun ζ => ζ ≤ (e.ints ++ e.arrs).length ∧ allTo ζ (fun x => Iv.ok ((e.ints ++ e.arrs).getD x default)) = true) (fun ζ => (e.ints ++ e.arrs).length - ζ) ?_ ?_
    ·skip
     exact .here 0 (.of (.cons rfl (.cons (svI (show (0) = ((0 : Int)) by first | rfl | omega | exact wrap_le (by omega) (by omega) | (rw [wrap_le (by omega) (by omega)]; omega))) .nil)) .nil) (show 0 ≤ (e.ints ++ e.arrs).length ∧ allTo 0 (fun x => Iv.ok ((e.ints ++ e.arrs).getD x default)) = true by exact ⟨by omega, rfl⟩)
    ·rintro j hI
     have hI : j ≤ (e.ints ++ e.arrs).length ∧ allTo j (fun x => Iv.ok ((e.ints ++ e.arrs).getD x default)) = true := hI
     have hn9 : (e.ints ++ e.arrs).length ≤ 3145728 := by simp; omega
     refine .seq <| .seq <| .rs fun k20 => .mv rfl <| .mv rfl <| .g (fun _ τ => ⟨_, .len (.no rfl) rfl (z := ((e.ints ++ e.arrs).length : Int)) t96 rfl rfl rfl (.d _ _) (map_len _ _) rfl τ⟩) <| .bi rfl <| .z ?_
     refine .cond (t := decide ((j : Int) < ((e.ints ++ e.arrs).length : Int))) rfl (fun c3 => ?_) (fun c3 => ?_)
     ·have c3 := of_decide_eq_true c3
      refine .skip <| .seq <| .block <| .seq <| .rs fun k21 => .mv rfl <| .mv rfl <| .g (fun _ τ => ⟨_, .indexAddr (.no rfl) rfl (j) t96 rfl t119 rfl rfl rfl (.d _ _) rfl rfl rfl (map_get (by omega)) rfl rfl τ⟩) <| .lda t119 rfl (.d _) rfl ?_
      refine .c0 (c_sIvOk ((e.ints ++ e.arrs).getD (j) default)) rfl (.dd (.dd .nil)) (.own [51, 0] .nil) rfl <| .un rfl <| .z ?_
      refine .cond (t := !(Iv.ok ((e.ints ++ e.arrs).getD (j) default))) rfl (fun c4 => ?_) (fun c4 => ?_)
      ·have c4 := (nT id) c4
       refine .seq <| .rs fun k22 => .as rfl <| .z <| .ret ?_
       exact fin0 (.inr rfl) (.one (svB (show (false) = (Decl.ok d && Env.okIn d e) by simp only [c0, Env.okIn, c1, all_none (p := Iv.ok) (j := j) (by omega) c4]; simp)) .nil) (.dd .nil) rfl
      ·have c4 := (nF id) c4
       refine .skip <| .rs fun k24 => .mv rfl <| .bi rfl <| .as rfl <| .z ?_
       exact .here (j + 1) (.of (.cons rfl (.cons (svI (show (IntKind.wrap .i64 ((j : Int) + 1)) = (((j + 1) : Int)) by first | rfl | omega | exact wrap_le (by omega) (by omega) | (rw [wrap_le (by omega) (by omega)]; omega))) .nil)) .nil) ⟨(show (j + 1) ≤ (e.ints ++ e.arrs).length ∧ allTo (j + 1) (fun x => Iv.ok ((e.ints ++ e.arrs).getD x default)) = true by exact ⟨by omega, allTo_step hI.2 c4⟩), (show (e.ints ++ e.arrs).length - (j + 1) < (e.ints ++ e.arrs).length - j by omega)⟩
     ·have c3 := of_decide_eq_false c3
      refine .exit <| .seq <| .rs fun k25 => .as rfl <| .z <| .ret ?_
      exact fin0 (.inr rfl) (.one (svB (show (true) = (Decl.ok d && Env.okIn d e) by simp only [c0, Env.okIn, c1, all_done (p := Iv.ok) (j := j) (by omega) hI.2]; simp; omega)) .nil) (.dd .nil) rfl
theorem c_l6Of (l : List Iv) (n : Nat) (hb : n ≤ l.length ∧ l.length ≤ 2097152) : Trip Tryz.prog 212 [(false, 1), (false, 1)] ([.sl false 119 2 (List.map Iv.c (l))] ++ [.v (.int .i64 ((n : Int)))]) [(true, 3)] [.v (.bool ((Env.mk true (l.take n) (l.drop n)).live)), .sl true 119 2 (List.map Iv.c ((Env.mk true (l.take n) (l.drop n)).ints)), .sl true 119 2 (List.map Iv.c ((Env.mk true (l.take n) (l.drop n)).arrs))] [] := by
 refine Trip.of Tryz.func212 (by decide) (c := _) rfl rfl (Nat.le_of_ble_eq_true rfl) rfl (AftOk.nil _) <| .sl (t := 0) rfl fun hs1l => .seq <| .rs fun k2 => .g (fun _ τ => ⟨_, .alloc (.no rfl) rfl z98 rfl rfl rfl τ⟩) <| .z <| .seq ?_
 refine .regD (X := Nat × Nat × Nat) (by kernel_rfl) (fun ζ => .of [(4, .one (.ptr [4] (k2) 0))] [([4], (k2, ζ.1, .box [.d (.v (.bool (true))), .ref [5] (ζ.2.1), .ref [10] (ζ.2.2)])), ([5], (ζ.2.1, ζ.2.1, .row 119 2 (List.map Iv.c (l.take n)))), ([10], (ζ.2.2, ζ.2.2, .row 119 2 (List.map Iv.c (l.drop n))))]) [⟨[], some 5, [], [[5]]⟩, ⟨[0], some 6, [], []⟩, ⟨[1], some 7, [], []⟩, ⟨[6, 7], some 8, [], []⟩, ⟨[5, 8], some 9, [[5]], [[5]]⟩, ⟨[], some 10, [], [[10]]⟩, ⟨[0], some 11, [], []⟩, ⟨[1], some 12, [], []⟩, ⟨[11, 12], some 13, [], []⟩, ⟨[10, 13], some 14, [[10]], [[10]]⟩, ⟨[9, 14], some 15, [], []⟩, ⟨[4, 15], none, [[4]], [[4]]⟩] (by kernel_rfl) (fun k3 => ?_) ?_
 ·skip
  refine .buildSlice (.no rfl) rfl (els := []) t96 rfl z119 rfl rfl rfl rfl rfl rfl rfl rfl (by simp [i119]) .nil rfl rfl rfl <| .move (.no rfl) rfl rfl rfl rfl <| .move (.no rfl) rfl rfl rfl rfl <| .slice (.no rfl) rfl (lv := 0) (hv := n) (m := 0) t96 rfl t119 rfl rfl (.d _ _) rfl (by intro _ _ h; cases h) (by exact rfl) (by exact ⟨_, rfl⟩) (Nat.zero_le _) (le_map (by omega)) (cut_d0 _ _ _ _ _ _ _ _ _) rfl <| .append (.no rfl) rfl (l3 := List.map Iv.c (l.take n)) t96 rfl z119 rfl rfl rfl rfl rfl rfl rfl rfl (.ref _ _ _ _ rfl) (.ro _ _) rfl (by simp [i119]; omega) (List.nil_append _) rfl rfl <| .buildSlice (.no rfl) rfl (els := []) t96 rfl z119 rfl rfl rfl rfl rfl rfl rfl rfl (by simp [i119]) .nil rfl rfl rfl <| .move (.no rfl) rfl rfl rfl rfl <| .move (.no rfl) rfl rfl rfl rfl ?_
  refine .slice (.no rfl) rfl (lv := n) (hv := (List.map Iv.c (l)).length) (m := 0) t96 rfl t119 rfl rfl (.d _ _) rfl (by intro _ _ h; cases h) (by exact ⟨_, rfl⟩) (by exact rfl) (le_map (by omega)) (Nat.le_refl _) (cut_dn _ _ _ _ _ _ _ _ _) rfl <| .append (.no rfl) rfl (l3 := List.map Iv.c (l.drop n)) t96 rfl z119 rfl rfl rfl rfl rfl rfl rfl rfl (.ref _ _ _ _ rfl) (.ro _ _) rfl (by simp [i119]; omega) (List.nil_append _) rfl rfl <| .build (.no rfl) rfl z98 rfl p98 rfl rfl rfl rfl <| .store (.no rfl) rfl t98 rfl rfl rfl rfl rfl rfl rfl rfl rfl ?_
  exact .fin (k3 + 1 + 1 + 1 + 1 + 1 + 1 + 1 + 1 + 1 + 1 + 1, k3 + 1 + 1 + 1 + 1, k3 + 1 + 1 + 1 + 1 + 1 + 1 + 1 + 1 + 1) (.of (.r rfl) (.r rfl))
 rintro ⟨g4, g5, g6⟩
 refine .ret ?_
 have e7 : (true) = ((Env.mk true (l.take n) (l.drop n)).live) := by rfl
 have e8 : (l.take n) = ((Env.mk true (l.take n) (l.drop n)).ints) := by rfl
 have e9 : (l.drop n) = ((Env.mk true (l.take n) (l.drop n)).arrs) := by rfl
 have hc10 := eq1 (fun z1 => some (k2, g4, O.box [.d (.v (.bool (z1))), .ref [5] (g5), .ref [10] (g6)])) e7
 exact fin1 (.inr rfl) [] [([5], (g5, g5, .row 119 2 (List.map Iv.c ((Env.mk true (l.take n) (l.drop n)).ints)))), ([10], (g6, g6, .row 119 2 (List.map Iv.c ((Env.mk true (l.take n) (l.drop n)).arrs))))] (.cell (cells := [.d (.v (.bool ((Env.mk true (l.take n) (l.drop n)).live))), .ref [5] (g5), .ref [10] (g6)]) rfl hc10 t98 rfl rfl .nil) (.dd (.cons (.ref (.head _)) (.cons (.ref (.tail _ (.head _))) .nil))) rfl rfl (.cons (rowE (congrArg (List.map Iv.c) e8)) (.cons (rowE (congrArg (List.map Iv.c) e9)) .nil))
theorem c_l6Join (a : Env) (b : Env) (hj : a.live = true → b.live = true → a.ints.length = b.ints.length ∧ a.arrs.length = b.arrs.length) (hb : a.ints.length ≤ 1048576 ∧ a.arrs.length ≤ 1048576 ∧ b.ints.length ≤ 1048576 ∧ b.arrs.length ≤ 1048576) : Trip Tryz.prog 185 [(true, 3), (true, 3)] (Env.c98 a ++ Env.c98 b) [(true, 3)] [.v (.bool ((Env.join a b).live)), .sl true 119 2 (List.map Iv.c ((Env.join a b).ints)), .sl true 119 2 (List.map Iv.c ((Env.join a b).arrs))] [] := by
 refine Trip.of Tryz.func185 (by decide) (c := _) rfl rfl (Nat.le_of_ble_eq_true rfl) rfl (AftOk.nil _) <| .sla (t := 0) 1 rfl rfl fun hs1l => .sla (t := 0) 2 rfl rfl fun hs2l => .sla (t := 1) 1 rfl rfl fun hs3l => .sla (t := 1) 2 rfl rfl fun hs4l => .seq <| .rs fun k5 => .g (fun _ τ => ⟨_, .box (.no rfl) rfl rfl rfl rfl rfl τ⟩) <| .g (fun _ τ => ⟨_, .box (.no rfl) rfl rfl rfl rfl rfl τ⟩) ?_
 refine .g (fun _ τ => ⟨_, .alloc (.no rfl) rfl z98 rfl rfl rfl τ⟩) <| .z <| .seq <| .seq <| .rs fun k6 => .fp t98 t4 rfl <| .ld t4 rfl (.ptr _ _ _ _ _ rfl) rfl <| .un rfl <| .z ?_
 refine .cond (t := !a.live) rfl (fun c0 => ?_) (fun c0 => ?_)
 ·have c0 := (nT id) c0
  refine .seq <| .rs fun k7 => .lda t98 rfl (.ptr _ _ _ _ _ rfl) rfl <| .c0 (c_l6Copy b (by first | omega | (rw [zip2To_len]; simp at hI c2 ⊢; omega))) rfl (.dd (.dd (.dd .nil))) (.own [13, 0] (.own [13, 1] (.own [13, 2] .nil))) rfl <| .g (fun _ τ => ⟨_, .store (.no rfl) rfl t98 rfl rfl rfl rfl rfl rfl rfl rfl rfl τ⟩) <| .z <| .ret ?_
  have e8 : (b.live) = ((Env.join a b).live) := by simp [Env.join, c0]
  have e9 : (b.ints) = ((Env.join a b).ints) := by simp [Env.join, c0]
  have e10 : (b.arrs) = ((Env.join a b).arrs) := by simp [Env.join, c0]
  have hc11 := eq1 (fun z1 => some (k5 + 1 + 1, k7 + 1 + 1, O.box [.d (.v (.bool (z1))), .ref [13, 1] (k7 + 1), .ref [13, 2] (k7 + 1)])) e8
  exact fin1 (.inr rfl) [] [([13, 1], (k7 + 1, k7 + 1, .row 119 2 (List.map Iv.c ((Env.join a b).ints)))), ([13, 2], (k7 + 1, k7 + 1, .row 119 2 (List.map Iv.c ((Env.join a b).arrs))))] (.cell (cells := [.d (.v (.bool ((Env.join a b).live))), .ref [13, 1] (k7 + 1), .ref [13, 2] (k7 + 1)]) rfl hc11 t98 rfl rfl .nil) (.dd (.cons (.ref (.head _)) (.cons (.ref (.tail _ (.head _))) .nil))) rfl rfl (.cons (rowE (congrArg (List.map Iv.c) e9)) (.cons (rowE (congrArg (List.map Iv.c) e10)) .nil))
 ·have c0 := (nF id) c0
  refine .skip <| .seq <| .seq <| .rs fun k12 => .fp t98 t4 rfl <| .ld t4 rfl (.ptr _ _ _ _ _ rfl) rfl <| .un rfl <| .z ?_
  refine .cond (t := !b.live) rfl (fun c1 => ?_) (fun c1 => ?_)
  ·have c1 := (nT id) c1
   refine .seq <| .rs fun k13 => .lda t98 rfl (.ptr _ _ _ _ _ rfl) rfl <| .c0 (c_l6Copy a (by first | omega | (rw [zip2To_len]; simp at hI c2 ⊢; omega))) rfl (.dd (.dd (.dd .nil))) (.own [18, 0] (.own [18, 1] (.own [18, 2] .nil))) rfl <| .g (fun _ τ => ⟨_, .store (.no rfl) rfl t98 rfl rfl rfl rfl rfl rfl rfl rfl rfl τ⟩) <| .z <| .ret ?_
   have e14 : (a.live) = ((Env.join a b).live) := by simp [Env.join, c0, c1]
   have e15 : (a.ints) = ((Env.join a b).ints) := by simp [Env.join, c0, c1]
   have e16 : (a.arrs) = ((Env.join a b).arrs) := by simp [Env.join, c0, c1]
   have hc17 := eq1 (fun z1 => some (k5 + 1 + 1, k13 + 1 + 1, O.box [.d (.v (.bool (z1))), .ref [18, 1] (k13 + 1), .ref [18, 2] (k13 + 1)])) e14
   exact fin1 (.inr rfl) [] [([18, 1], (k13 + 1, k13 + 1, .row 119 2 (List.map Iv.c ((Env.join a b).ints)))), ([18, 2], (k13 + 1, k13 + 1, .row 119 2 (List.map Iv.c ((Env.join a b).arrs))))] (.cell (cells := [.d (.v (.bool ((Env.join a b).live))), .ref [18, 1] (k13 + 1), .ref [18, 2] (k13 + 1)]) rfl hc17 t98 rfl rfl .nil) (.dd (.cons (.ref (.head _)) (.cons (.ref (.tail _ (.head _))) .nil))) rfl rfl (.cons (rowE (congrArg (List.map Iv.c) e15)) (.cons (rowE (congrArg (List.map Iv.c) e16)) .nil))
  ·have c1 := (nF id) c1
   refine .skip <| .seq <| .rs fun k18 => .lda t98 rfl (.ptr _ _ _ _ _ rfl) rfl <| .c0 (c_l6List a (by first | omega | (rw [zip2To_len]; simp at hI c2 ⊢; omega))) rfl (.dd (.dd (.dd .nil))) (.frz [20, 0] (Frz.of_erase (erase_slo _ _ _ _ _ _ Iv.c_e)) .nil) rfl <| .as rfl <| .z <| .seq <| .rs fun k19 => ?_
   refine .lda t98 rfl (.ptr _ _ _ _ _ rfl) rfl <| .c0 (c_l6List b (by first | omega | (rw [zip2To_len]; simp at hI c2 ⊢; omega))) rfl (.dd (.dd (.dd .nil))) (.frz [22, 0] (Frz.of_erase (erase_slo _ _ _ _ _ _ Iv.c_e)) .nil) rfl <| .as rfl <| .z <| .seq <| .rs fun k20 => .g (fun _ τ => ⟨_, .buildSlice (.no rfl) rfl (els := []) t96 rfl z119 rfl rfl rfl rfl rfl rfl rfl rfl (by simp [i119]) .nil rfl rfl rfl τ⟩) <| .as rfl <| .z ?_
   refine .seq <| .seq <| .rs fun k21 => .as rfl <| .z <| .block ?_
   refine .loop (X := Nat × Nat × Nat) (fun ζ => .of [(2, .one (.ptr [2] (k5) 0)), (4, .one (.ptr [4] (k5 + 1 + 1) 0)), (5, .one (.d (.sl false 119 2 (List.map Iv.c (a.ints ++ a.arrs))))), (6, .one (.d (.sl false 119 2 (List.map Iv.c (b.ints ++ b.arrs))))), (7, .one (.ref [23] (ζ.2.1))), (8, .one (.d (.v (.int .i64 ((ζ.1 : Int))))))] [([2], (k5, k5, .box [.d (.v (.bool (a.live))), .d (.sl false 119 2 (List.map Iv.c (a.ints))), .d (.sl false 119 2 (List.map Iv.c (a.arrs)))])), ([4], (k5 + 1 + 1, k5 + 1 + 1, .box [.d (.v (.bool (false))), .d (.v (.slice none 0 0)), .d (.v (.slice none 0 0))])), ([23], (ζ.2.1, ζ.2.2, .row 119 2 (List.map Iv.c (zip2To Iv.join (a.ints ++ a.arrs) (b.ints ++ b.arrs) ζ.1))))]) (fun ζ => ζ.1 ≤ (a.ints ++ a.arrs).length) (fun ζ => (a.ints ++ a.arrs).length - ζ.1) ?_ ?_
   ·skip
    exact .here (0, k20, k20) (.of (.cons rfl (.cons rfl (.cons rfl (.cons rfl (.cons rfl (.cons (svI (show (0) = ((0 : Int)) by first | rfl | omega | exact wrap_le (by omega) (by omega) | (rw [wrap_le (by omega) (by omega)]; omega))) .nil)))))) (.cons rfl (.cons rfl (.cons (rowE (show [] = List.map Iv.c (zip2To Iv.join (a.ints ++ a.arrs) (b.ints ++ b.arrs) 0) by first | rfl | exact congrArg _ (zip2To_step _ _ _ _))) .nil)))) (show 0 ≤ (a.ints ++ a.arrs).length by omega)
   ·rintro ⟨j, q22, q23⟩ hI
    have hI : j ≤ (a.ints ++ a.arrs).length := hI
    have hn9 : (a.ints ++ a.arrs).length ≤ 3145728 := by simp; omega
    have hn8 : (a.ints ++ a.arrs).length = (b.ints ++ b.arrs).length := by have := hj c0 c1; simp; omega
    have hn7 := zip2To_len Iv.join (a.ints ++ a.arrs) (b.ints ++ b.arrs) j
    dsimp only
    refine .seq <| .seq <| .rs fun k24 => .mv rfl <| .mv rfl <| .g (fun _ τ => ⟨_, .len (.no rfl) rfl (z := ((a.ints ++ a.arrs).length : Int)) t96 rfl rfl rfl (.d _ _) (map_len _ _) rfl τ⟩) <| .bi rfl <| .z ?_
    refine .cond (t := decide ((j : Int) < ((a.ints ++ a.arrs).length : Int))) rfl (fun c2 => ?_) (fun c2 => ?_)
    ·have c2 := of_decide_eq_true c2
     refine .skip <| .seq <| .block ?_
     refine .regD (X := Nat) (by kernel_rfl) (fun ζ => .of [(2, .one (.ptr [2] (k5) 0)), (4, .one (.ptr [4] (k5 + 1 + 1) 0)), (5, .one (.d (.sl false 119 2 (List.map Iv.c (a.ints ++ a.arrs))))), (6, .one (.d (.sl false 119 2 (List.map Iv.c (b.ints ++ b.arrs))))), (7, .one (.ref [23] (ζ))), (8, .one (.d (.v (.int .i64 ((j : Int))))))] [([2], (k5, k5, .box [.d (.v (.bool (a.live))), .d (.sl false 119 2 (List.map Iv.c (a.ints))), .d (.sl false 119 2 (List.map Iv.c (a.arrs)))])), ([4], (k5 + 1 + 1, k5 + 1 + 1, .box [.d (.v (.bool (false))), .d (.v (.slice none 0 0)), .d (.v (.slice none 0 0))])), ([23], (ζ, ζ, .row 119 2 (List.map Iv.c (zip2To Iv.join (a.ints ++ a.arrs) (b.ints ++ b.arrs) j ++ [(Iv.join ((a.ints ++ a.arrs).getD (j) default) ((b.ints ++ b.arrs).getD (j) default))]))))]) [⟨[7], some 30, [], []⟩, ⟨[5], some 31, [], []⟩, ⟨[8], some 32, [], []⟩, ⟨[31, 32], some 33, [], []⟩, ⟨[33], some 34, [], []⟩, ⟨[6], some 35, [], []⟩, ⟨[8], some 36, [], []⟩, ⟨[35, 36], some 37, [], []⟩, ⟨[37], some 38, [], []⟩, ⟨[34, 38], some 39, [], []⟩, ⟨[39], some 40, [], [[40]]⟩, ⟨[30, 40], some 41, [[23], [40]], [[40], [23]]⟩, ⟨[41], some 7, [], []⟩] (by kernel_rfl) (fun k25 => ?_) ?_
     ·skip
      refine .move (.no rfl) rfl rfl rfl rfl <| .move (.no rfl) rfl rfl rfl rfl <| .move (.no rfl) rfl rfl rfl rfl <| .indexAddr (.no rfl) rfl (j) t96 rfl t119 rfl rfl rfl (.d _ _) rfl rfl rfl (map_get (by omega)) rfl rfl <| .load (.no rfl) rfl t119 rfl rfl (.d _) rfl rfl rfl rfl <| .move (.no rfl) rfl rfl rfl rfl <| .move (.no rfl) rfl rfl rfl rfl <| .indexAddr (.no rfl) rfl (j) t96 rfl t119 rfl rfl rfl (.d _ _) rfl rfl rfl (map_get (by omega)) rfl rfl <| .load (.no rfl) rfl t119 rfl rfl (.d _) rfl rfl rfl rfl ?_
      refine .call (.no rfl) rfl [] [] (c_l2Join ((a.ints ++ a.arrs).getD (j) default) ((b.ints ++ b.arrs).getD (j) default)) rfl rfl rfl rfl rfl (.dd (.dd (.dd (.dd .nil)))) rfl rfl (fun h => absurd rfl h) (.own [39, 0] (.own [39, 1] .nil)) (.nil) rfl rfl rfl (by simp) rfl rfl rfl <| .buildSlice (.no rfl) rfl (els := [[.v (.int .i64 ((Iv.join ((a.ints ++ a.arrs).getD (j) default) ((b.ints ++ b.arrs).getD (j) default)).lo)), .v (.int .i64 ((Iv.join ((a.ints ++ a.arrs).getD (j) default) ((b.ints ++ b.arrs).getD (j) default)).hi))]]) t96 rfl z119 rfl rfl rfl rfl rfl rfl rfl rfl (by simp [i119]) (.cons _ _ _ _ _ _ (.d _) (.cons _ _ _ _ _ _ (.d _) .nil)) rfl rfl rfl ?_
      refine .append (.no rfl) rfl (l3 := List.map Iv.c (zip2To Iv.join (a.ints ++ a.arrs) (b.ints ++ b.arrs) j ++ [(Iv.join ((a.ints ++ a.arrs).getD (j) default) ((b.ints ++ b.arrs).getD (j) default))])) t96 rfl z119 rfl rfl rfl rfl rfl rfl rfl rfl (.ref _ _ _ _ rfl) (.take _ _ _ _ _ rfl) rfl (by simp [i119]; omega) (map_snoc _ _ _) rfl rfl <| .assign (.no rfl) rfl rfl rfl rfl ?_
      exact .fin (k25 + 1 + 1 + 1 + 1 + 1 + 1 + 1 + 1 + 1 + 1 + 1) (.of (.r rfl) (.r rfl))
     intro g26
     refine .rs fun k27 => .mv rfl <| .bi rfl <| .as rfl <| .z ?_
     exact .here ((j + 1), g26, g26) (.of (.cons rfl (.cons rfl (.cons rfl (.cons rfl (.cons rfl (.cons (svI (show (IntKind.wrap .i64 ((j : Int) + 1)) = (((j + 1) : Int)) by first | rfl | omega | exact wrap_le (by omega) (by omega) | (rw [wrap_le (by omega) (by omega)]; omega))) .nil)))))) (.cons rfl (.cons rfl (.cons (rowE (show List.map Iv.c (zip2To Iv.join (a.ints ++ a.arrs) (b.ints ++ b.arrs) j ++ [(Iv.join ((a.ints ++ a.arrs).getD (j) default) ((b.ints ++ b.arrs).getD (j) default))]) = List.map Iv.c (zip2To Iv.join (a.ints ++ a.arrs) (b.ints ++ b.arrs) (j + 1)) by first | rfl | exact congrArg _ (zip2To_step _ _ _ _))) .nil)))) ⟨(show (j + 1) ≤ (a.ints ++ a.arrs).length by omega), (show (a.ints ++ a.arrs).length - (j + 1) < (a.ints ++ a.arrs).length - j by omega)⟩
    ·have c2 := of_decide_eq_false c2
     refine .exit <| .seq <| .rs fun k28 => .mv rfl <| .fp t98 t96 rfl <| .ld t96 rfl (.ptr _ _ _ _ _ rfl) rfl <| .g (fun _ τ => ⟨_, .len (.no rfl) rfl (z := (a.ints.length : Int)) t96 rfl rfl rfl (.d _ _) (map_len _ _) rfl τ⟩) <| .g (fun _ τ => ⟨_, .call (.no rfl) rfl [[23]] [([23], (q22, q23, .row 119 2 (List.map Iv.c (zip2To Iv.join (a.ints ++ a.arrs) (b.ints ++ b.arrs) j))))] (c_l6Of (zip2To Iv.join (a.ints ++ a.arrs) (b.ints ++ b.arrs) j) a.ints.length (by first | omega | (rw [zip2To_len]; simp at hI c2 ⊢; omega))) rfl rfl rfl rfl rfl (.cons (Reads.ref (Frz.of_erase (erase_slo _ _ _ _ _ _ Iv.c_e)) (.head _) (.head _)).gives (.dd .nil)) rfl rfl (fun _ => (ownCons (Owned.v _) (ownCons (Owned.map _ _ _ _ Iv.c_o) (ownCons (Owned.map _ _ _ _ Iv.c_o) ownNil)))) (.own [46, 0] (.own [46, 1] (.own [46, 2] .nil))) (.nil) rfl rfl rfl (AllH.get (.r rfl)) rfl rfl rfl τ⟩) ?_
     refine .g (fun _ τ => ⟨_, .store (.no rfl) rfl t98 rfl rfl rfl rfl rfl rfl rfl rfl rfl τ⟩) <| .z <| .ret ?_
     have e29 : ((Env.mk true ((zip2To Iv.join (a.ints ++ a.arrs) (b.ints ++ b.arrs) j).take a.ints.length) ((zip2To Iv.join (a.ints ++ a.arrs) (b.ints ++ b.arrs) j).drop a.ints.length)).live) = ((Env.join a b).live) := by (have hj9 := hj c0 c1; first | (simp [Env.join, c0, c1]; done) | skip; simp only [Env.join, c0, c1, if_true]; first | (rw [zip2To_all Iv.join hI (by omega)]; exact zip2_take _ hj9.1) | (rw [zip2To_all Iv.join hI (by omega)]; exact zip2_drop _ hj9.1))
     have e30 : ((Env.mk true ((zip2To Iv.join (a.ints ++ a.arrs) (b.ints ++ b.arrs) j).take a.ints.length) ((zip2To Iv.join (a.ints ++ a.arrs) (b.ints ++ b.arrs) j).drop a.ints.length)).ints) = ((Env.join a b).ints) := by (have hj9 := hj c0 c1; first | (simp [Env.join, c0, c1]; done) | skip; simp only [Env.join, c0, c1, if_true]; first | (rw [zip2To_all Iv.join hI (by omega)]; exact zip2_take _ hj9.1) | (rw [zip2To_all Iv.join hI (by omega)]; exact zip2_drop _ hj9.1))
     have e31 : ((Env.mk true ((zip2To Iv.join (a.ints ++ a.arrs) (b.ints ++ b.arrs) j).take a.ints.length) ((zip2To Iv.join (a.ints ++ a.arrs) (b.ints ++ b.arrs) j).drop a.ints.length)).arrs) = ((Env.join a b).arrs) := by (have hj9 := hj c0 c1; first | (simp [Env.join, c0, c1]; done) | skip; simp only [Env.join, c0, c1, if_true]; first | (rw [zip2To_all Iv.join hI (by omega)]; exact zip2_take _ hj9.1) | (rw [zip2To_all Iv.join hI (by omega)]; exact zip2_drop _ hj9.1))
     have hc32 := eq1 (fun z1 => some (k5 + 1 + 1, k28 + 1 + 1 + 1 + 1 + 1, O.box [.d (.v (.bool (z1))), .ref [46, 1] (k28 + 1 + 1 + 1 + 1), .ref [46, 2] (k28 + 1 + 1 + 1 + 1)])) e29
     exact fin1 (.inr rfl) [] [([46, 1], (k28 + 1 + 1 + 1 + 1, k28 + 1 + 1 + 1 + 1, .row 119 2 (List.map Iv.c ((Env.join a b).ints)))), ([46, 2], (k28 + 1 + 1 + 1 + 1, k28 + 1 + 1 + 1 + 1, .row 119 2 (List.map Iv.c ((Env.join a b).arrs))))] (.cell (cells := [.d (.v (.bool ((Env.join a b).live))), .ref [46, 1] (k28 + 1 + 1 + 1 + 1), .ref [46, 2] (k28 + 1 + 1 + 1 + 1)]) rfl hc32 t98 rfl rfl .nil) (.dd (.cons (.ref (.head _)) (.cons (.ref (.tail _ (.head _))) .nil))) rfl rfl (.cons (rowE (congrArg (List.map Iv.c) e30)) (.cons (rowE (congrArg (List.map Iv.c) e31)) .nil))
end Go.Proofs

namespace Go.Proofs
open Go Go.Proofs Go.Ev

def slc22 (x : List ByteArray) : List D := [.sl false 9 1 (List.map strc (x))]
theorem slc22_e (x : List ByteArray) : (slc22 x).map D.erase = slc22 x := by simp [slc22, erase_slo _ _ _ _ _ _ strc_e]
def slco22 (x : List ByteArray) : List D := [.sl true 9 1 (List.map strc (x))]
theorem slco22_e (x : List ByteArray) : (slco22 x).map D.erase = slc22 x := by simp [slco22, slc22, erase_slo _ _ _ _ _ _ strc_e]
theorem slco22_o (x : List ByteArray) : ∀ d ∈ slco22 x, Owned d := by simp [slco22, Owned.map _ _ _ _ strc_o]
def i211 : TI := ⟨.sl 22, 1, 24, [.slice none 0 0]⟩
theorem t211 : TyOk Tryz.prog 211 i211 := ⟨Tryz.underlying211, by kernel_rfl⟩
theorem z211 : ZOk Tryz.prog 211 i211 := ⟨t211, rfl⟩
theorem c_Grow (n : Nat) (hn : n ≤ 4194304) : Trip Tryz.prog 202 [(false, 1), (false, 1)] ([.v (.slice none 0 0)] ++ [.v (.int .i64 ((n : Int)))]) [(false, 1)] [.sl true 9 1 ([])] [] := by
 refine Trip.of Tryz.func202 (by decide) (c := _) rfl rfl (Nat.le_of_ble_eq_true rfl) rfl (AftOk.nil _) <| .seq <| .rs fun k1 => .as rfl <| .z <| .seq <| .seq <| .rs fun k2 => .mv rfl ?_
 refine .bi rfl <| .z ?_
 refine .cond (t := decide ((n : Int) < 0)) rfl (fun c0 => ?_) (fun c0 => ?_)
 ·have c0 := of_decide_eq_true c0
  exfalso; omega
 ·have c0 := of_decide_eq_false c0
  refine .skip <| .seq <| .seq <| .rs fun k3 => .mv rfl <| .mv rfl <| .g (fun _ τ => ⟨_, .capNil (.no rfl) rfl t22 rfl rfl rfl rfl τ⟩) <| .mv rfl <| .g (fun _ τ => ⟨_, .len (.no rfl) rfl (z := 0) t22 rfl rfl rfl (sz := 1) .nil rfl rfl τ⟩) ?_
  refine .bi (v := .int .i64 (0)) rfl <| .bi rfl <| .as rfl <| .z <| .seq <| .rs fun k4 => .mv rfl <| .bi rfl <| .z ?_
  refine .cond (t := decide ((IntKind.wrap .i64 ((n : Int) - 0)) > 0)) rfl (fun c1 => ?_) (fun c1 => ?_)
  ·have c1 := of_decide_eq_true c1
   refine .rs fun k5 => .mv rfl <| .mv rfl <| .g (fun _ τ => ⟨_, .capNil (.no rfl) rfl t22 rfl rfl rfl rfl τ⟩) <| .g (fun _ τ => ⟨_, .sliceNil (.no rfl) rfl t22 rfl t9 rfl rfl (by exact rfl) (by exact ⟨_, rfl⟩) rfl τ⟩) <| .mv rfl <| .g (fun _ τ => ⟨_, .growNil (.no rfl) rfl (n0 := n) (els := List.map strc (List.replicate n .empty)) t22 rfl t3 rfl z9 rfl rfl rfl rfl rfl rfl (by exact (wrap_le (by omega) (by omega)).trans (by omega)) (by (rw [wrap_le (by omega) (by omega)] at c1; omega)) (by simp [i9]; omega) (by omega) (rep_map _ _ _ rfl) rfl τ⟩) <| .mv rfl <| .g (fun _ τ => ⟨_, .len (.no rfl) rfl (z := 0) t22 rfl rfl rfl (sz := 1) .nil rfl rfl τ⟩) ?_
   refine .g (fun _ τ => ⟨_, .slice (.no rfl) rfl (lv := 0) (hv := 0) (m := k5 + 1 + 1 + 1 + 1 + 1) t22 rfl t9 rfl rfl (.ref _ _ _ _ _ rfl) rfl (by intro _ _ h; cases h; exact ⟨_, .head _⟩) (by exact rfl) (by exact ⟨_, rfl⟩) (Nat.zero_le _) (Nat.zero_le _) rfl rfl τ⟩) <| .as rfl <| .z <| .seq <| .rs fun k6 => .mv rfl <| .as rfl <| .z <| .ret ?_
   exact fin1 (.inr rfl) [] [([22], (k5 + 1 + 1 + 1 + 1 + 1, k5 + 1 + 1 + 1 + 1 + 1, .row 9 1 (List.map strc (List.replicate n .empty))))] (.one rfl .nil) (.cons (.cut0 (.head _)) .nil) rfl rfl (.r rfl)
  ·have c1 := of_decide_eq_false c1
   refine .skip <| .seq <| .rs fun k7 => .mv rfl <| .as rfl <| .z <| .ret ?_
   exact fin0 (.inr rfl) (.one rfl .nil) (.cons (Gives.nil' (by first | rfl | simp_all)) .nil) rfl
theorem c_Concat (l : List (List ByteArray)) (hb : lens l ≤ 4194304 ∧ l.length ≤ 1048576) : Trip Tryz.prog 170 [(false, 1)] ([.sl false 22 1 (List.map slc22 (l))]) [(false, 1)] [.sl true 9 1 (List.map strc (l.flatten))] [] := by
 refine Trip.of Tryz.func170 (by decide) (c := _) rfl rfl (Nat.le_of_ble_eq_true rfl) rfl (AftOk.nil _) <| .sl (t := 0) rfl fun hs1l => .seq <| .rs fun k2 => .as rfl <| .z <| .seq <| .rs fun k3 => .as rfl ?_
 refine .z <| .seq <| .seq <| .rs fun k4 => .mv rfl <| .g (fun _ τ => ⟨_, .len (.no rfl) rfl (z := (l.length : Int)) t211 rfl rfl rfl (.d _ _) (map_len _ _) rfl τ⟩) <| .mv rfl <| .z <| .block ?_
 refine .loop (X := Nat) (fun ζ => .of [(0, .one (.d (.sl false 22 1 (List.map slc22 (l))))), (3, .one (.d (.v (.int .i64 ((lens (l.take ζ) : Int)))))), (9, .one (.d (.sl false 22 1 (List.map slc22 (l))))), (10, .one (.d (.v (.int .i64 ((l.length : Int)))))), (11, .one (.d (.v (.int .i64 ((ζ : Int))))))] []) (fun ζ => ζ ≤ l.length) (fun ζ => l.length - ζ) ?_ ?_
 ·skip
  exact .here 0 (.of (.cons rfl (.cons (svI (show (0) = ((lens (l.take 0) : Int)) by first | rfl | omega | exact wrap_le (by omega) (by omega) | (rw [wrap_le (by omega) (by omega)]; omega))) (.cons rfl (.cons rfl (.cons (svI (show (0) = ((0 : Int)) by first | rfl | omega | exact wrap_le (by omega) (by omega) | (rw [wrap_le (by omega) (by omega)]; omega))) .nil))))) .nil) (show 0 ≤ l.length by omega)
 ·rintro j hI
  have hI : j ≤ l.length := hI
  have hs9 := lens_take l j
  have hs8 := lens_le l (j + 1)
  have hs7 := lens_le l j
  refine .seq <| .rs fun k5 => .bi rfl <| .z <| .seq ?_
  refine .cond (t := decide ((j : Int) < (l.length : Int))) rfl (fun c0 => ?_) (fun c0 => ?_)
  ·have c0 := of_decide_eq_true c0
   refine .skip <| .seq <| .block <| .seq <| .rs fun k6 => .g (fun _ τ => ⟨_, .indexAddr (.no rfl) rfl (j) t211 rfl t22 rfl rfl rfl (.d _ _) rfl rfl rfl (map_get (by omega)) rfl rfl τ⟩) <| .ld t22 rfl (.d _) rfl <| .as rfl <| .z ?_
   refine .seq <| .rs fun k7 => .mv rfl <| .mv rfl <| .g (fun _ τ => ⟨_, .len (.no rfl) rfl (z := ((l.getD j default).length : Int)) t22 rfl rfl rfl (.d _ _) (map_len _ _) rfl τ⟩) <| .bi rfl <| .as rfl <| .z <| .seq ?_
   refine .rs fun k8 => .mv rfl <| .bi rfl <| .z ?_
   refine .cond (t := decide ((IntKind.wrap .i64 ((lens (l.take j) : Int) + ((l.getD j default).length : Int))) < 0)) rfl (fun c1 => ?_) (fun c1 => ?_)
   ·have c1 := of_decide_eq_true c1
    exfalso; (rw [wrap_le (by omega) (by omega)] at c1; omega)
   ·have c1 := of_decide_eq_false c1
    refine .skip <| .rs fun k9 => .bi rfl <| .mv rfl <| .z ?_
    exact .here (j + 1) (.of (.cons rfl (.cons (svI (show (IntKind.wrap .i64 ((lens (l.take j) : Int) + ((l.getD j default).length : Int))) = ((lens (l.take (j + 1)) : Int)) by first | rfl | omega | exact wrap_le (by omega) (by omega) | (rw [wrap_le (by omega) (by omega)]; omega))) (.cons rfl (.cons rfl (.cons (svI (show (IntKind.wrap .i64 ((j : Int) + 1)) = (((j + 1) : Int)) by first | rfl | omega | exact wrap_le (by omega) (by omega) | (rw [wrap_le (by omega) (by omega)]; omega))) .nil))))) .nil) ⟨(show (j + 1) ≤ l.length by omega), (show l.length - (j + 1) < l.length - j by omega)⟩
  ·have c0 := of_decide_eq_false c0
   refine .exit <| .seq <| .rs fun k10 => .mv rfl <| .c0 (c_Grow (lens (l.take j)) (by omega)) rfl (.dd (.dd .nil)) (.own [24, 0] .nil) rfl <| .as rfl <| .z <| .seq <| .seq ?_
   refine .rs fun k11 => .mv rfl <| .g (fun _ τ => ⟨_, .len (.no rfl) rfl (z := (l.length : Int)) t211 rfl rfl rfl (.d _ _) (map_len _ _) rfl τ⟩) <| .mv rfl <| .z <| .block ?_
   refine .loop (X := Nat × Nat × Nat) (fun ζ => .of [(6, .one (.ref [24, 0] (ζ.2.1))), (25, .one (.d (.sl false 22 1 (List.map slc22 (l))))), (26, .one (.d (.v (.int .i64 ((l.length : Int)))))), (27, .one (.d (.v (.int .i64 ((ζ.1 : Int))))))] [([24, 0], (ζ.2.1, ζ.2.2, .row 9 1 (List.map strc ((l.take ζ.1).flatten))))]) (fun ζ => ζ.1 ≤ l.length) (fun ζ => l.length - ζ.1) ?_ ?_
   ·skip
    exact .here (0, (k10 + 1), (k10 + 1)) (.of (.cons (by show SV.one (.ref [24, 0] (k10 + 1)) = SV.one (.ref [24, 0] ((k10 + 1))); first | rfl | simp_all) (.cons rfl (.cons rfl (.cons (svI (show (0) = ((0 : Int)) by first | rfl | omega | exact wrap_le (by omega) (by omega) | (rw [wrap_le (by omega) (by omega)]; omega))) .nil)))) (.cons (rowE (show [] = List.map strc ((l.take 0).flatten) by first | (simp; done) | exact congrArg _ (take_flatten _ _))) .nil)) (show 0 ≤ l.length by omega)
   ·rintro ⟨i, q12, q13⟩ hI
    have hI : i ≤ l.length := hI
    have hs9 := lens_take l i
    have hs8 := lens_le l (i + 1)
    have hs7 := lens_le l i
    dsimp only
    refine .seq <| .rs fun k14 => .bi rfl <| .z <| .seq ?_
    refine .cond (t := decide ((i : Int) < (l.length : Int))) rfl (fun c2 => ?_) (fun c2 => ?_)
    ·have c2 := of_decide_eq_true c2
     refine .skip <| .seq <| .block <| .seq <| .rs fun k15 => .g (fun _ τ => ⟨_, .indexAddr (.no rfl) rfl (i) t211 rfl t22 rfl rfl rfl (.d _ _) rfl rfl rfl (map_get (by omega)) rfl rfl τ⟩) <| .ld t22 rfl (.d _) rfl <| .as rfl <| .z ?_
     refine .rs fun k16 => .mv rfl <| .mv rfl <| .g (fun _ τ => ⟨_, .append (.no rfl) rfl (l3 := List.map strc ((l.take i).flatten ++ l.getD i default)) t22 rfl z9 rfl rfl rfl rfl rfl rfl rfl rfl (.ref _ _ _ _ rfl) (.ro _ _) rfl (by simp only [List.length_map, flatten_lens, i9]; omega) (map_app _ _ _) rfl rfl τ⟩) <| .as rfl <| .z <| .rs fun k17 => .bi rfl <| .mv rfl ?_
     refine .z ?_
     exact .here ((i + 1), (k16 + 1 + 1), (k16 + 1 + 1)) (.of (.cons (by show SV.one (.ref [24, 0] (k16 + 1 + 1)) = SV.one (.ref [24, 0] ((k16 + 1 + 1))); first | rfl | simp_all) (.cons rfl (.cons rfl (.cons (svI (show (IntKind.wrap .i64 ((i : Int) + 1)) = (((i + 1) : Int)) by first | rfl | omega | exact wrap_le (by omega) (by omega) | (rw [wrap_le (by omega) (by omega)]; omega))) .nil)))) (.cons (rowE (show List.map strc ((l.take i).flatten ++ l.getD i default) = List.map strc ((l.take (i + 1)).flatten) by first | (simp; done) | exact congrArg _ (take_flatten _ _))) .nil)) ⟨(show (i + 1) ≤ l.length by omega), (show l.length - (i + 1) < l.length - i by omega)⟩
    ·have c2 := of_decide_eq_false c2
     refine .exit <| .seq <| .rs fun k18 => .mv rfl <| .as rfl <| .z <| .ret ?_
     have e19 : ((l.take i).flatten) = (l.flatten) := by (rw [List.take_of_length_le (by omega)])
     exact fin1 (.inr rfl) [] [([24, 0], (q12, q13, .row 9 1 (List.map strc (l.flatten))))] (.one rfl .nil) (.cons (.ref (.head _)) .nil) rfl rfl (.cons (rowE (congrArg (List.map strc) e19)) .nil)
theorem c_names (d : Decl) (hb : d.vars.length ≤ 1048576 ∧ d.flags.length ≤ 1048576 ∧ d.arrays.length ≤ 1048576) : Trip Tryz.prog 127 [(true, 3)] (Decl.c33 d) [(false, 1)] [.sl true 9 1 (List.map strc (Decl.names d))] [] := by
 refine Trip.of Tryz.func127 (by decide) (c := _) rfl rfl (Nat.le_of_ble_eq_true rfl) rfl (AftOk.nil _) <| .sla (t := 0) 0 rfl rfl fun hs1l => .sla (t := 0) 1 rfl rfl fun hs2l => .sla (t := 0) 2 rfl rfl fun hs3l => .seq <| .rs fun k4 => .g (fun _ τ => ⟨_, .box (.no rfl) rfl rfl rfl rfl rfl τ⟩) <| .as rfl <| .z ?_
 refine .seq <| .rs fun k5 => .fp t33 t22 rfl <| .ld t22 rfl (.ptr _ _ _ _ _ rfl) rfl <| .fp t33 t22 rfl <| .ld t22 rfl (.ptr _ _ _ _ _ rfl) rfl <| .g (fun _ τ => ⟨_, .buildSlice (.no rfl) rfl (els := [[.sl false 9 1 (List.map strc (d.vars))], [.sl false 9 1 (List.map strc (d.flags))]]) t211 rfl z22 rfl rfl rfl rfl rfl rfl rfl rfl (by simp [i22]) (.cons _ _ _ _ _ _ (.d _) (.cons _ _ _ _ _ _ (.d _) .nil)) rfl rfl rfl τ⟩) ?_
 refine .g (fun _ τ => ⟨_, .call (.no rfl) rfl [[10]] [([10], (k5 + 1 + 1 + 1 + 1, k5 + 1 + 1 + 1 + 1, .row 22 1 ([[.sl false 9 1 (List.map strc (d.vars))], [.sl false 9 1 (List.map strc (d.flags))]])))] (c_Concat [d.vars, d.flags] (by (simp [lens]; omega))) rfl rfl rfl rfl rfl (.cons (Reads.ref (Frz.of_erase (erase_slo true 22 1 slc22 slc22 ([d.vars, d.flags]) slc22_e)) (.head _) (.head _)).gives .nil) rfl rfl (fun _ => (ownCons (Owned.map _ _ _ _ strc_o) ownNil)) (.own [11, 0] .nil) (.nil) rfl rfl rfl (AllH.get (.r rfl)) rfl rfl rfl τ⟩) <| .as rfl <| .z <| .seq <| .seq <| .rs fun k6 => .fp t33 t31 rfl <| .ld t31 rfl (.ptr _ _ _ _ _ rfl) rfl <| .g (fun _ τ => ⟨_, .len (.no rfl) rfl (z := (d.arrays.length : Int)) t31 rfl rfl rfl (.d _ _) (map_len _ _) rfl τ⟩) ?_
 refine .mv rfl <| .z <| .block ?_
 refine .loop (X := Nat × Nat × Nat) (fun ζ => .of [(3, .one (.ref [11, 0] (ζ.2.1))), (13, .one (.d (.sl false 112 2 (List.map Arr.c (d.arrays))))), (14, .one (.d (.v (.int .i64 ((d.arrays.length : Int)))))), (15, .one (.d (.v (.int .i64 ((ζ.1 : Int))))))] [([11, 0], (ζ.2.1, ζ.2.2, .row 9 1 (List.map strc (d.vars ++ d.flags ++ (d.arrays.take ζ.1).map Arr.name))))]) (fun ζ => ζ.1 ≤ d.arrays.length) (fun ζ => d.arrays.length - ζ.1) ?_ ?_
 ·skip
  exact .here (0, (k5 + 1 + 1 + 1 + 1 + 1), (k5 + 1 + 1 + 1 + 1 + 1)) (.of (.cons (by show SV.one (.ref [11, 0] (k5 + 1 + 1 + 1 + 1 + 1)) = SV.one (.ref [11, 0] ((k5 + 1 + 1 + 1 + 1 + 1))); first | rfl | simp_all) (.cons rfl (.cons rfl (.cons (svI (show (0) = ((0 : Int)) by first | rfl | omega | exact wrap_le (by omega) (by omega) | (rw [wrap_le (by omega) (by omega)]; omega))) .nil)))) (.cons (rowE (show List.map strc ([d.vars, d.flags].flatten) = List.map strc (d.vars ++ d.flags ++ (d.arrays.take 0).map Arr.name) by first | (simp; done) | (rw [List.append_assoc (d.vars ++ d.flags), take_step (f := Arr.name) (by omega)]))) .nil)) (show 0 ≤ d.arrays.length by omega)
 ·rintro ⟨j, q7, q8⟩ hI
  have hI : j ≤ d.arrays.length := hI
  dsimp only
  refine .seq <| .rs fun k9 => .bi rfl <| .z <| .seq ?_
  refine .cond (t := decide ((j : Int) < (d.arrays.length : Int))) rfl (fun c0 => ?_) (fun c0 => ?_)
  ·have c0 := of_decide_eq_true c0
   refine .skip <| .seq <| .block <| .seq <| .rs fun k10 => .g (fun _ τ => ⟨_, .indexAddr (.no rfl) rfl (j) t31 rfl t112 rfl rfl rfl (.d _ _) rfl rfl rfl (map_get (by omega)) rfl rfl τ⟩) <| .lda t112 rfl (.d _) rfl <| .g (fun _ τ => ⟨_, .alloc (.no rfl) rfl z112 rfl rfl rfl τ⟩) <| .g (fun _ τ => ⟨_, .store (.no rfl) rfl t112 rfl rfl rfl rfl rfl rfl rfl rfl rfl τ⟩) ?_
   refine .z <| .rs fun k11 => .mv rfl <| .fp t112 t9 rfl <| .ld t9 rfl (.ptr _ _ _ _ _ rfl) rfl <| .g (fun _ τ => ⟨_, .buildSlice (.no rfl) rfl (els := [[.v (.string ((d.arrays.getD j default).name))]]) t22 rfl z9 rfl rfl rfl rfl rfl rfl rfl rfl (by simp [i9]) (.cons _ _ _ _ _ _ (.d _) .nil) rfl rfl rfl τ⟩) <| .g (fun _ τ => ⟨_, .append (.no rfl) rfl (l3 := List.map strc (d.vars ++ d.flags ++ (d.arrays.take j).map Arr.name ++ [(d.arrays.getD j default).name])) t22 rfl z9 rfl rfl rfl rfl rfl rfl rfl rfl (.ref _ _ _ _ rfl) (.take _ _ _ _ _ rfl) rfl (by simp [i9]; omega) (map_snoc _ _ _) rfl rfl τ⟩) <| .as rfl <| .z ?_
   refine .rs fun k12 => .bi rfl <| .mv rfl <| .z ?_
   exact .here ((j + 1), (k11 + 1 + 1 + 1 + 1), (k11 + 1 + 1 + 1 + 1)) (.of (.cons (by show SV.one (.ref [11, 0] (k11 + 1 + 1 + 1 + 1)) = SV.one (.ref [11, 0] ((k11 + 1 + 1 + 1 + 1))); first | rfl | simp_all) (.cons rfl (.cons rfl (.cons (svI (show (IntKind.wrap .i64 ((j : Int) + 1)) = (((j + 1) : Int)) by first | rfl | omega | exact wrap_le (by omega) (by omega) | (rw [wrap_le (by omega) (by omega)]; omega))) .nil)))) (.cons (rowE (show List.map strc (d.vars ++ d.flags ++ (d.arrays.take j).map Arr.name ++ [(d.arrays.getD j default).name]) = List.map strc (d.vars ++ d.flags ++ (d.arrays.take (j + 1)).map Arr.name) by first | (simp; done) | (rw [List.append_assoc (d.vars ++ d.flags), take_step (f := Arr.name) (by omega)]))) .nil)) ⟨(show (j + 1) ≤ d.arrays.length by omega), (show d.arrays.length - (j + 1) < d.arrays.length - j by omega)⟩
  ·have c0 := of_decide_eq_false c0
   refine .exit <| .seq <| .rs fun k13 => .mv rfl <| .as rfl <| .z <| .ret ?_
   have e14 : (d.vars ++ d.flags ++ (d.arrays.take j).map Arr.name) = (Decl.names d) := by (simp only [Decl.names]; rw [List.take_of_length_le (by omega)])
   exact fin1 (.inr rfl) [] [([11, 0], (q7, q8, .row 9 1 (List.map strc (Decl.names d))))] (.one rfl .nil) (.cons (.ref (.head _)) .nil) rfl rfl (.cons (rowE (congrArg (List.map strc) e14)) .nil)
end Go.Proofs

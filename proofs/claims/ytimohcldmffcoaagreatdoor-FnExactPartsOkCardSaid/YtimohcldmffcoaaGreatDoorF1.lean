/- Contracts of the program's functions at this seat, printed by a program of ours and checked by Lean: each under the conditions of its own statement. -/
import Derived.Test.YtimohcldmffcoaaGreatDoorE4
import Derived.Test.YtimohcldmffcoaaGreatDoorProg
import Derived.Test.YtimohcldmffcoaaGreatDoorShelf
set_option linter.all false
set_option linter.unnecessarySimpa false
set_option linter.unusedSectionVars false
set_option linter.unusedSimpArgs false
set_option linter.unusedVariables false
namespace Go.Proofs
open Go Go.Proofs Go.Ev
instance : Lay := ⟨[(0, (List.range 256).map fun c => .v (.int .u8 (if Lib.isSp (UInt8.ofNat c) then 1 else 0)))]⟩

def strc (x : ByteArray) : List D := [.v (.string x)]
theorem strc_e (x : ByteArray) : (strc x).map D.erase = strc x := by simp [strc, D.erase_v]
theorem strc_o (x : ByteArray) : ∀ d ∈ strc x, Owned d := by simp [strc, Owned.v]
def Arr.c (x : Arr) : List D := [.v (.string (x.name)), .v (.int .i64 (x.size))]
theorem Arr.c_o (x : Arr) : ∀ d ∈ Arr.c x, Owned d := by simp [Arr.c, Owned.v]
theorem Arr.c_e (x : Arr) : (Arr.c x).map D.erase = Arr.c x := by simp [Arr.c, D.erase_v]
def Decl.c25 (x : Decl) : List D := [.sl false 9 1 (List.map strc (x.vars)), .sl false 9 1 (List.map strc (x.flags)), .sl false 115 2 (List.map Arr.c (x.arrays))]
theorem Decl.c25_e (x : Decl) : (Decl.c25 x).map D.erase = Decl.c25 x := by simp [Decl.c25, D.erase_v, erase_slo _ _ _ _ _ _ strc_e, erase_slo _ _ _ _ _ _ Arr.c_e]
def Decl.co25 (x : Decl) : List D := [.sl true 9 1 (List.map strc (x.vars)), .sl true 9 1 (List.map strc (x.flags)), .sl true 115 2 (List.map Arr.c (x.arrays))]
theorem Decl.co25_e (x : Decl) : (Decl.co25 x).map D.erase = Decl.c25 x := by simp [Decl.co25, Decl.c25, D.erase_v, erase_slo _ _ _ _ _ _ strc_e, erase_slo _ _ _ _ _ _ Arr.c_e]
theorem Decl.co25_o (x : Decl) : ∀ d ∈ Decl.co25 x, Owned d := by simp [Decl.co25, Owned.v, Owned.map _ _ _ _ strc_o, Owned.map _ _ _ _ Arr.c_o]
def Iv.c (x : Iv) : List D := [.v (.int .i64 (x.lo)), .v (.int .i64 (x.hi))]
theorem Iv.c_o (x : Iv) : ∀ d ∈ Iv.c x, Owned d := by simp [Iv.c, Owned.v]
theorem Iv.c_e (x : Iv) : (Iv.c x).map D.erase = Iv.c x := by simp [Iv.c, D.erase_v]
def Env.c69 (x : Env) : List D := [.v (.bool (x.live)), .sl false 156 2 (List.map Iv.c (x.ints)), .sl false 156 2 (List.map Iv.c (x.arrs))]
theorem Env.c69_e (x : Env) : (Env.c69 x).map D.erase = Env.c69 x := by simp [Env.c69, D.erase_v, erase_slo _ _ _ _ _ _ Iv.c_e]
def Env.co69 (x : Env) : List D := [.v (.bool (x.live)), .sl true 156 2 (List.map Iv.c (x.ints)), .sl true 156 2 (List.map Iv.c (x.arrs))]
theorem Env.co69_e (x : Env) : (Env.co69 x).map D.erase = Env.c69 x := by simp [Env.co69, Env.c69, D.erase_v, erase_slo _ _ _ _ _ _ Iv.c_e]
theorem Env.co69_o (x : Env) : ∀ d ∈ Env.co69 x, Owned d := by simp [Env.co69, Owned.v, Owned.map _ _ _ _ Iv.c_o]
def Env.c77 (x : Env) : List D := [.v (.bool (x.live)), .sl false 122 2 (List.map Iv.c (x.ints)), .sl false 122 2 (List.map Iv.c (x.arrs))]
theorem Env.c77_e (x : Env) : (Env.c77 x).map D.erase = Env.c77 x := by simp [Env.c77, D.erase_v, erase_slo _ _ _ _ _ _ Iv.c_e]
def Env.co77 (x : Env) : List D := [.v (.bool (x.live)), .sl true 122 2 (List.map Iv.c (x.ints)), .sl true 122 2 (List.map Iv.c (x.arrs))]
theorem Env.co77_e (x : Env) : (Env.co77 x).map D.erase = Env.c77 x := by simp [Env.co77, Env.c77, D.erase_v, erase_slo _ _ _ _ _ _ Iv.c_e]
theorem Env.co77_o (x : Env) : ∀ d ∈ Env.co77 x, Owned d := by simp [Env.co77, Owned.v, Owned.map _ _ _ _ Iv.c_o]
def Decl.c38 (x : Decl) : List D := [.sl false 9 1 (List.map strc (x.vars)), .sl false 9 1 (List.map strc (x.flags)), .sl false 119 2 (List.map Arr.c (x.arrays))]
theorem Decl.c38_e (x : Decl) : (Decl.c38 x).map D.erase = Decl.c38 x := by simp [Decl.c38, D.erase_v, erase_slo _ _ _ _ _ _ strc_e, erase_slo _ _ _ _ _ _ Arr.c_e]
def Decl.co38 (x : Decl) : List D := [.sl true 9 1 (List.map strc (x.vars)), .sl true 9 1 (List.map strc (x.flags)), .sl true 119 2 (List.map Arr.c (x.arrays))]
theorem Decl.co38_e (x : Decl) : (Decl.co38 x).map D.erase = Decl.c38 x := by simp [Decl.co38, Decl.c38, D.erase_v, erase_slo _ _ _ _ _ _ strc_e, erase_slo _ _ _ _ _ _ Arr.c_e]
theorem Decl.co38_o (x : Decl) : ∀ d ∈ Decl.co38 x, Owned d := by simp [Decl.co38, Owned.v, Owned.map _ _ _ _ strc_o, Owned.map _ _ _ _ Arr.c_o]
def i2 : TI := ⟨.int .i64, 1, 8, [.int .i64 0]⟩
theorem t2 : TyOk Tryz.prog 2 i2 := ⟨Tryz.underlying2, by kernel_rfl⟩
theorem z2 : ZOk Tryz.prog 2 i2 := ⟨t2, rfl⟩
def i4 : TI := ⟨.bool, 1, 1, [.bool false]⟩
theorem t4 : TyOk Tryz.prog 4 i4 := ⟨Tryz.underlying4, by kernel_rfl⟩
theorem z4 : ZOk Tryz.prog 4 i4 := ⟨t4, rfl⟩
def i9 : TI := ⟨.str, 1, 16, [.string .empty]⟩
theorem t9 : TyOk Tryz.prog 9 i9 := ⟨Tryz.underlying9, by kernel_rfl⟩
theorem z9 : ZOk Tryz.prog 9 i9 := ⟨t9, rfl⟩
def i22 : TI := ⟨.sl 9, 1, 24, [.slice none 0 0]⟩
theorem t22 : TyOk Tryz.prog 22 i22 := ⟨Tryz.underlying22, by kernel_rfl⟩
theorem z22 : ZOk Tryz.prog 22 i22 := ⟨t22, rfl⟩
def i23 : TI := ⟨.sl 115, 1, 24, [.slice none 0 0]⟩
theorem t23 : TyOk Tryz.prog 23 i23 := ⟨Tryz.underlying23, by kernel_rfl⟩
theorem z23 : ZOk Tryz.prog 23 i23 := ⟨t23, rfl⟩
def i25 : TI := ⟨.st [(0, 22), (1, 22), (2, 23)], 3, 72, [.slice none 0 0, .slice none 0 0, .slice none 0 0]⟩
theorem t25 : TyOk Tryz.prog 25 i25 := ⟨⟨_, Tryz.underlying25, rfl⟩, by kernel_rfl⟩
theorem z25 : ZOk Tryz.prog 25 i25 := ⟨t25, rfl⟩
theorem p25 : Places Tryz.prog [(0, 22), (1, 22), (2, 23)] [(0, 1), (1, 1), (2, 1)] := by unfold Places; kernel_rfl
def i36 : TI := ⟨.sl 119, 1, 24, [.slice none 0 0]⟩
theorem t36 : TyOk Tryz.prog 36 i36 := ⟨Tryz.underlying36, by kernel_rfl⟩
theorem z36 : ZOk Tryz.prog 36 i36 := ⟨t36, rfl⟩
def i38 : TI := ⟨.st [(0, 22), (1, 22), (2, 36)], 3, 72, [.slice none 0 0, .slice none 0 0, .slice none 0 0]⟩
theorem t38 : TyOk Tryz.prog 38 i38 := ⟨⟨_, Tryz.underlying38, rfl⟩, by kernel_rfl⟩
theorem z38 : ZOk Tryz.prog 38 i38 := ⟨t38, rfl⟩
theorem p38 : Places Tryz.prog [(0, 22), (1, 22), (2, 36)] [(0, 1), (1, 1), (2, 1)] := by unfold Places; kernel_rfl
def i67 : TI := ⟨.sl 156, 1, 24, [.slice none 0 0]⟩
theorem t67 : TyOk Tryz.prog 67 i67 := ⟨Tryz.underlying67, by kernel_rfl⟩
theorem z67 : ZOk Tryz.prog 67 i67 := ⟨t67, rfl⟩
def i69 : TI := ⟨.st [(0, 4), (1, 67), (2, 67)], 3, 56, [.bool false, .slice none 0 0, .slice none 0 0]⟩
theorem t69 : TyOk Tryz.prog 69 i69 := ⟨⟨_, Tryz.underlying69, rfl⟩, by kernel_rfl⟩
theorem z69 : ZOk Tryz.prog 69 i69 := ⟨t69, rfl⟩
theorem p69 : Places Tryz.prog [(0, 4), (1, 67), (2, 67)] [(0, 1), (1, 1), (2, 1)] := by unfold Places; kernel_rfl
def i75 : TI := ⟨.sl 122, 1, 24, [.slice none 0 0]⟩
theorem t75 : TyOk Tryz.prog 75 i75 := ⟨Tryz.underlying75, by kernel_rfl⟩
theorem z75 : ZOk Tryz.prog 75 i75 := ⟨t75, rfl⟩
def i77 : TI := ⟨.st [(0, 4), (1, 75), (2, 75)], 3, 56, [.bool false, .slice none 0 0, .slice none 0 0]⟩
theorem t77 : TyOk Tryz.prog 77 i77 := ⟨⟨_, Tryz.underlying77, rfl⟩, by kernel_rfl⟩
theorem z77 : ZOk Tryz.prog 77 i77 := ⟨t77, rfl⟩
theorem p77 : Places Tryz.prog [(0, 4), (1, 75), (2, 75)] [(0, 1), (1, 1), (2, 1)] := by unfold Places; kernel_rfl
def i115 : TI := ⟨.st [(0, 9), (1, 2)], 2, 24, [.string .empty, .int .i64 0]⟩
theorem t115 : TyOk Tryz.prog 115 i115 := ⟨⟨_, Tryz.underlying115, rfl⟩, by kernel_rfl⟩
theorem z115 : ZOk Tryz.prog 115 i115 := ⟨t115, rfl⟩
theorem p115 : Places Tryz.prog [(0, 9), (1, 2)] [(0, 1), (1, 1)] := by unfold Places; kernel_rfl
def i119 : TI := ⟨.st [(0, 9), (1, 2)], 2, 24, [.string .empty, .int .i64 0]⟩
theorem t119 : TyOk Tryz.prog 119 i119 := ⟨⟨_, Tryz.underlying119, rfl⟩, by kernel_rfl⟩
theorem z119 : ZOk Tryz.prog 119 i119 := ⟨t119, rfl⟩
theorem p119 : Places Tryz.prog [(0, 9), (1, 2)] [(0, 1), (1, 1)] := by unfold Places; kernel_rfl
def i122 : TI := ⟨.st [(0, 2), (1, 2)], 2, 16, [.int .i64 0, .int .i64 0]⟩
theorem t122 : TyOk Tryz.prog 122 i122 := ⟨⟨_, Tryz.underlying122, rfl⟩, by kernel_rfl⟩
theorem z122 : ZOk Tryz.prog 122 i122 := ⟨t122, rfl⟩
theorem p122 : Places Tryz.prog [(0, 2), (1, 2)] [(0, 1), (1, 1)] := by unfold Places; kernel_rfl
def i156 : TI := ⟨.st [(0, 2), (1, 2)], 2, 16, [.int .i64 0, .int .i64 0]⟩
theorem t156 : TyOk Tryz.prog 156 i156 := ⟨⟨_, Tryz.underlying156, rfl⟩, by kernel_rfl⟩
theorem z156 : ZOk Tryz.prog 156 i156 := ⟨t156, rfl⟩
theorem p156 : Places Tryz.prog [(0, 2), (1, 2)] [(0, 1), (1, 1)] := by unfold Places; kernel_rfl
theorem c_szStringS (a : List ByteArray) (left : Int) (hl : 0 ≤ left ∧ left ≤ 1048576) (hw : ∀ x ∈ a, 0 ≤ strW x ∧ strW x ≤ 9223372036854775807) : Trip Tryz.prog 33 [(false, 1), (false, 1)] ([.sl false 9 1 (List.map strc (a))] ++ [.v (.int .i64 (left))]) [(false, 1)] [.v (.int .i64 (szL strW a left))] [] := by
 refine Trip.of Tryz.func33 (by decide) (c := _) rfl rfl (shB_ok rfl) (Nat.le_of_ble_eq_true rfl) rfl (AftOk.nil _) ?_
 refine .sat (t := 0) rfl (fun hs1 => ?_)
 have hs1l : a.length ≤ 9223372036854775807 := hs1.maplen
 refine .seq ?_
 refine .reg (X := Unit) (fun ζ => .of [(0, .one (.d (.sl false 9 1 (List.map strc (a))))), (1, .one (.d (.v (.int .i64 (left)))))] []) [⟨[], some 4, [], []⟩] (fun k2 => ?_) ?_
 ·skip
  refine .assign (.no rfl) rfl rfl rfl rfl ?_
  exact .fin () (.of (.cons rfl (.cons rfl .nil)) .nil)
 intro _
 refine .seq ?_
 refine .reg (X := Unit) (fun ζ => .of [(0, .one (.d (.sl false 9 1 (List.map strc (a))))), (1, .one (.d (.v (.int .i64 (IntKind.wrap .i64 (left - (a.length : Int)))))))] []) [⟨[1], some 6, [], []⟩, ⟨[0], some 7, [], []⟩, ⟨[7], some 8, [], []⟩, ⟨[6, 8], some 9, [], []⟩, ⟨[9], some 1, [], []⟩] (fun k3 => ?_) ?_
 ·skip
  refine .move (.no rfl) rfl rfl rfl rfl ?_
  refine .move (.no rfl) rfl rfl rfl rfl ?_
  refine .len (.no rfl) rfl (z := (a.length : Int)) t22 rfl rfl rfl (.d _ _) (map_len _ _) rfl ?_
  refine .bin (.no rfl) rfl rfl rfl rfl rfl rfl ?_
  refine .assign (.no rfl) rfl rfl rfl rfl ?_
  exact .fin () (.of (.cons rfl (.cons rfl .nil)) .nil)
 intro _
 refine .seq ?_
 refine .seq ?_
 refine .reg (X := Unit) (fun ζ => .of [(0, .one (.d (.sl false 9 1 (List.map strc (a))))), (1, .one (.d (.v (.int .i64 (IntKind.wrap .i64 (left - (a.length : Int))))))), (11, .one (.d (.v (.bool (decide ((IntKind.wrap .i64 (left - (a.length : Int))) < 0))))))] []) [⟨[1], some 10, [], []⟩, ⟨[10], some 11, [], []⟩] (fun k4 => ?_) ?_
 ·skip
  refine .move (.no rfl) rfl rfl rfl rfl ?_
  refine .bin (.no rfl) rfl rfl rfl rfl rfl rfl ?_
  exact .fin () (.of (.cons rfl (.cons rfl (.cons rfl .nil))) .nil)
 intro _
 refine .cond (t := decide ((IntKind.wrap .i64 (left - (a.length : Int))) < 0)) rfl (fun c0 => ?_) (fun c0 => ?_)
 ·have c0 := of_decide_eq_true c0
  refine .seq ?_
  refine .reg (X := Unit) (fun ζ => .of [(4, .one (.d (.v (.int .i64 (-1)))))] []) [⟨[], some 4, [], []⟩] (fun k5 => ?_) ?_
  ·skip
   refine .assign (.no rfl) rfl rfl rfl rfl ?_
   exact .fin () (.of (.cons rfl .nil) .nil)
  intro _
  refine .ret ?_
  have e6 : (-1) = (szL strW a left) := by (rw [wrap_le (by omega) (by omega)] at c0; simp only [szL]; rw [if_pos c0])
  have hc7 := eq1 (fun z1 => SV.one (.d (.v (.int .i64 (z1))))) e6
  show _ ∧ _
  exact ⟨.inr rfl, .done ⟨_, [], [], _, .one (c := .d (.v (.int .i64 (szL strW a left)))) (hc7) .nil, .cons (Reads.d _).gives .nil, nodupB_ok rfl, by simp, (by simp)⟩⟩
 ·have c0 := of_decide_eq_false c0
  refine .skip ?_
  refine .seq ?_
  refine .seq ?_
  refine .reg (X := Unit) (fun ζ => .of [(0, .one (.d (.sl false 9 1 (List.map strc (a))))), (1, .one (.d (.v (.int .i64 (IntKind.wrap .i64 (left - (a.length : Int))))))), (5, .one (.d (.v (.int .i64 (0)))))] []) [⟨[], some 5, [], []⟩] (fun k8 => ?_) ?_
  ·skip
   refine .assign (.no rfl) rfl rfl rfl rfl ?_
   exact .fin () (.of (.cons rfl (.cons rfl (.cons rfl .nil))) .nil)
  intro _
  refine .block ?_
  refine .loop (X := Nat × Int) (fun ζ => .of [(0, .one (.d (.sl false 9 1 (List.map strc (a))))), (1, .one (.d (.v (.int .i64 (ζ.2))))), (5, .one (.d (.v (.int .i64 ((ζ.1 : Int))))))] []) (fun ζ => ζ.1 ≤ a.length ∧ 0 ≤ ζ.2 ∧ ζ.2 ≤ 1048576 ∧ ¬ left - a.length < 0 ∧ szGo strW ζ.2 (a.drop ζ.1) = szGo strW (left - a.length) a) (fun ζ => a.length - ζ.1) ?_ ?_
  ·skip
   exact .here (0, (left - a.length)) (.of (.cons rfl (.cons (svI (show (IntKind.wrap .i64 (left - (a.length : Int))) = ((left - a.length)) by first | rfl | omega | exact wrap_le (by omega) (by omega) | (rw [wrap_le (by omega) (by omega)]; omega) | (have hx : 0 ≤ strW (a.getD j default) ∧ strW (a.getD j default) ≤ 9223372036854775807 := hw _ (getD_mem (by omega)); exact wrap_le (a := v - strW (a.getD j default)) (by omega) (by omega)))) (.cons (svI (show (0) = ((0 : Int)) by first | rfl | omega | exact wrap_le (by omega) (by omega) | (rw [wrap_le (by omega) (by omega)]; omega) | (have hx : 0 ≤ strW (a.getD j default) ∧ strW (a.getD j default) ≤ 9223372036854775807 := hw _ (getD_mem (by omega)); exact wrap_le (a := v - strW (a.getD j default)) (by omega) (by omega)))) .nil))) .nil) (show 0 ≤ a.length ∧ 0 ≤ (left - a.length) ∧ (left - a.length) ≤ 1048576 ∧ ¬ left - a.length < 0 ∧ szGo strW (left - a.length) (a.drop 0) = szGo strW (left - a.length) a by (rw [wrap_le (by omega) (by omega)] at c0; exact ⟨by omega, by omega, by omega, c0, by simp⟩))
  ·rintro ⟨j, v⟩ hI
   have hI : j ≤ a.length ∧ 0 ≤ v ∧ v ≤ 1048576 ∧ ¬ left - a.length < 0 ∧ szGo strW v (a.drop j) = szGo strW (left - a.length) a := hI
   refine .seq ?_
   refine .seq ?_
   refine .reg (X := Unit) (fun ζ => .of [(0, .one (.d (.sl false 9 1 (List.map strc (a))))), (1, .one (.d (.v (.int .i64 (v))))), (5, .one (.d (.v (.int .i64 ((j : Int)))))), (15, .one (.d (.v (.bool (decide ((j : Int) < (a.length : Int)))))))] []) [⟨[5], some 12, [], []⟩, ⟨[0], some 13, [], []⟩, ⟨[13], some 14, [], []⟩, ⟨[12, 14], some 15, [], []⟩] (fun k9 => ?_) ?_
   ·skip
    refine .move (.no rfl) rfl rfl rfl rfl ?_
    refine .move (.no rfl) rfl rfl rfl rfl ?_
    refine .len (.no rfl) rfl (z := (a.length : Int)) t22 rfl rfl rfl (.d _ _) (map_len _ _) rfl ?_
    refine .bin (.no rfl) rfl rfl rfl rfl rfl rfl ?_
    exact .fin () (.of (.cons rfl (.cons rfl (.cons rfl (.cons rfl .nil)))) .nil)
   intro _
   refine .cond (t := decide ((j : Int) < (a.length : Int))) rfl (fun c1 => ?_) (fun c1 => ?_)
   ·have c1 := of_decide_eq_true c1
    refine .skip ?_
    refine .seq ?_
    refine .block ?_
    refine .seq ?_
    refine .reg (X := Unit) (fun ζ => .of [(0, .one (.d (.sl false 9 1 (List.map strc (a))))), (1, .one (.d (.v (.int .i64 (IntKind.wrap .i64 (v - ((a.getD j default).size : Int))))))), (5, .one (.d (.v (.int .i64 ((j : Int))))))] []) [⟨[1], some 18, [], []⟩, ⟨[0], some 19, [], []⟩, ⟨[5], some 20, [], []⟩, ⟨[19, 20], some 21, [], []⟩, ⟨[21], some 22, [], []⟩, ⟨[22], some 23, [], []⟩, ⟨[18, 23], some 24, [], []⟩, ⟨[24], some 1, [], []⟩] (fun k10 => ?_) ?_
    ·skip
     refine .move (.no rfl) rfl rfl rfl rfl ?_
     refine .move (.no rfl) rfl rfl rfl rfl ?_
     refine .move (.no rfl) rfl rfl rfl rfl ?_
     refine .indexAddr (.no rfl) rfl (j) t22 rfl t9 rfl rfl rfl (.d _ _) rfl rfl rfl (map_get (by omega)) rfl rfl ?_
     refine .load (.no rfl) rfl t9 rfl rfl (.d _) rfl rfl rfl rfl ?_
     refine .lenStr (.no rfl) rfl t9 rfl rfl rfl rfl rfl ?_
     refine .bin (.no rfl) rfl rfl rfl rfl rfl rfl ?_
     refine .assign (.no rfl) rfl rfl rfl rfl ?_
     exact .fin () (.of (.cons rfl (.cons rfl (.cons rfl .nil))) .nil)
    intro _
    refine .seq ?_
    refine .reg (X := Unit) (fun ζ => .of [(0, .one (.d (.sl false 9 1 (List.map strc (a))))), (1, .one (.d (.v (.int .i64 (IntKind.wrap .i64 (v - ((a.getD j default).size : Int))))))), (5, .one (.d (.v (.int .i64 ((j : Int)))))), (26, .one (.d (.v (.bool (decide ((IntKind.wrap .i64 (v - ((a.getD j default).size : Int))) < 0))))))] []) [⟨[1], some 25, [], []⟩, ⟨[25], some 26, [], []⟩] (fun k11 => ?_) ?_
    ·skip
     refine .move (.no rfl) rfl rfl rfl rfl ?_
     refine .bin (.no rfl) rfl rfl rfl rfl rfl rfl ?_
     exact .fin () (.of (.cons rfl (.cons rfl (.cons rfl (.cons rfl .nil)))) .nil)
    intro _
    refine .cond (t := decide ((IntKind.wrap .i64 (v - ((a.getD j default).size : Int))) < 0)) rfl (fun c2 => ?_) (fun c2 => ?_)
    ·have c2 := of_decide_eq_true c2
     refine .seq ?_
     refine .reg (X := Unit) (fun ζ => .of [(4, .one (.d (.v (.int .i64 (-1)))))] []) [⟨[], some 4, [], []⟩] (fun k12 => ?_) ?_
     ·skip
      refine .assign (.no rfl) rfl rfl rfl rfl ?_
      exact .fin () (.of (.cons rfl .nil) .nil)
     intro _
     refine .ret ?_
     have e13 : (-1) = (szL strW a left) := by (have hx : 0 ≤ strW (a.getD j default) ∧ strW (a.getD j default) ≤ 9223372036854775807 := hw _ (getD_mem (by omega)); change IntKind.wrap .i64 (v - strW (a.getD j default)) < 0 at c2; rw [wrap_le (by omega) (by omega)] at c2; simp only [szL]; rw [if_neg hI.2.2.2.1, ← hI.2.2.2.2, szGo_fail (by omega) c2])
     have hc14 := eq1 (fun z1 => SV.one (.d (.v (.int .i64 (z1))))) e13
     show _ ∧ _
     exact ⟨.inr rfl, .done ⟨_, [], [], _, .one (c := .d (.v (.int .i64 (szL strW a left)))) (hc14) .nil, .cons (Reads.d _).gives .nil, nodupB_ok rfl, by simp, (by simp)⟩⟩
    ·have c2 := of_decide_eq_false c2
     refine .skip ?_
     refine .reg (X := Unit) (fun ζ => .of [(0, .one (.d (.sl false 9 1 (List.map strc (a))))), (1, .one (.d (.v (.int .i64 (IntKind.wrap .i64 (v - ((a.getD j default).size : Int))))))), (5, .one (.d (.v (.int .i64 (IntKind.wrap .i64 ((j : Int) + 1))))))] []) [⟨[5], some 16, [], []⟩, ⟨[16], some 17, [], []⟩, ⟨[17], some 5, [], []⟩] (fun k15 => ?_) ?_
     ·skip
      refine .move (.no rfl) rfl rfl rfl rfl ?_
      refine .bin (.no rfl) rfl rfl rfl rfl rfl rfl ?_
      refine .assign (.no rfl) rfl rfl rfl rfl ?_
      exact .fin () (.of (.cons rfl (.cons rfl (.cons rfl .nil))) .nil)
     intro _
     exact .here ((j + 1), (v - strW (a.getD j default))) (.of (.cons rfl (.cons (svI (show (IntKind.wrap .i64 (v - ((a.getD j default).size : Int))) = ((v - strW (a.getD j default))) by first | rfl | omega | exact wrap_le (by omega) (by omega) | (rw [wrap_le (by omega) (by omega)]; omega) | (have hx : 0 ≤ strW (a.getD j default) ∧ strW (a.getD j default) ≤ 9223372036854775807 := hw _ (getD_mem (by omega)); exact wrap_le (a := v - strW (a.getD j default)) (by omega) (by omega)))) (.cons (svI (show (IntKind.wrap .i64 ((j : Int) + 1)) = (((j + 1) : Int)) by first | rfl | omega | exact wrap_le (by omega) (by omega) | (rw [wrap_le (by omega) (by omega)]; omega) | (have hx : 0 ≤ strW (a.getD j default) ∧ strW (a.getD j default) ≤ 9223372036854775807 := hw _ (getD_mem (by omega)); exact wrap_le (a := v - strW (a.getD j default)) (by omega) (by omega)))) .nil))) .nil) ⟨(show (j + 1) ≤ a.length ∧ 0 ≤ (v - strW (a.getD j default)) ∧ (v - strW (a.getD j default)) ≤ 1048576 ∧ ¬ left - a.length < 0 ∧ szGo strW (v - strW (a.getD j default)) (a.drop (j + 1)) = szGo strW (left - a.length) a by (have hx : 0 ≤ strW (a.getD j default) ∧ strW (a.getD j default) ≤ 9223372036854775807 := hw _ (getD_mem (by omega)); change ¬ IntKind.wrap .i64 (v - strW (a.getD j default)) < 0 at c2; rw [wrap_le (by omega) (by omega)] at c2; exact ⟨by omega, by omega, by omega, hI.2.2.2.1, by rw [← hI.2.2.2.2]; exact (szGo_step (by omega) c2).symm⟩)), (show a.length - (j + 1) < a.length - j by omega)⟩
   ·have c1 := of_decide_eq_false c1
    refine .exit ?_
    refine .seq ?_
    refine .reg (X := Unit) (fun ζ => .of [(4, .one (.d (.v (.int .i64 (v)))))] []) [⟨[1], some 27, [], []⟩, ⟨[27], some 4, [], []⟩] (fun k16 => ?_) ?_
    ·skip
     refine .move (.no rfl) rfl rfl rfl rfl ?_
     refine .assign (.no rfl) rfl rfl rfl rfl ?_
     exact .fin () (.of (.cons rfl .nil) .nil)
    intro _
    refine .ret ?_
    have e17 : (v) = (szL strW a left) := by (simp only [szL]; rw [if_neg hI.2.2.2.1, ← hI.2.2.2.2, szGo_end (by omega)])
    have hc18 := eq1 (fun z1 => SV.one (.d (.v (.int .i64 (z1))))) e17
    show _ ∧ _
    exact ⟨.inr rfl, .done ⟨_, [], [], _, .one (c := .d (.v (.int .i64 (szL strW a left)))) (hc18) .nil, .cons (Reads.d _).gives .nil, nodupB_ok rfl, by simp, (by simp)⟩⟩
theorem c_szArr (a : Arr) (left : Int) (hl : 0 ≤ left ∧ left ≤ 1048576) (hw : a.name.size ≤ 9223372036854775807) : Trip Tryz.prog 77 [(true, 2), (false, 1)] (Arr.c a ++ [.v (.int .i64 (left))]) [(false, 1)] [.v (.int .i64 (szA a left))] [] := by
 refine Trip.of Tryz.func77 (by decide) (c := _) rfl rfl (shB_ok rfl) (Nat.le_of_ble_eq_true rfl) rfl (AftOk.nil _) ?_
 refine .seq ?_
 refine .reg (X := Nat) (fun ζ => .of [(1, .one (.d (.v (.int .i64 (left))))), (2, .one (.ptr [2] (ζ) 0))] [([2], (ζ, ζ, .box [.d (.v (.string (a.name))), .d (.v (.int .i64 (a.size)))]))]) [⟨[0], some 2, [], [[2]]⟩, ⟨[], some 4, [], []⟩] (fun k1 => ?_) ?_
 ·skip
  refine .box (.no rfl) rfl rfl rfl rfl rfl ?_
  refine .assign (.no rfl) rfl rfl rfl rfl ?_
  exact .fin k1 (.of (.cons rfl (.cons rfl .nil)) (.cons rfl .nil))
 intro g2
 refine .seq ?_
 refine .reg (X := Unit) (fun ζ => .of [(1, .one (.d (.v (.int .i64 (IntKind.wrap .i64 (left - (a.name.size : Int)))))))] []) [⟨[1], some 5, [], []⟩, ⟨[2], some 6, [], []⟩, ⟨[6], some 7, [[2]], []⟩, ⟨[7], some 8, [], []⟩, ⟨[5, 8], some 9, [], []⟩, ⟨[9], some 1, [], []⟩] (fun k3 => ?_) ?_
 ·skip
  refine .move (.no rfl) rfl rfl rfl rfl ?_
  refine .fieldAddrP (.no rfl) rfl t115 rfl rfl t9 rfl rfl rfl rfl ?_
  refine .load (.no rfl) rfl t9 rfl rfl (.ptr _ _ _ _ _ rfl) rfl rfl rfl rfl ?_
  refine .lenStr (.no rfl) rfl t9 rfl rfl rfl rfl rfl ?_
  refine .bin (.no rfl) rfl rfl rfl rfl rfl rfl ?_
  refine .assign (.no rfl) rfl rfl rfl rfl ?_
  exact .fin () (.of (.cons rfl .nil) .nil)
 intro _
 refine .seq ?_
 refine .seq ?_
 refine .reg (X := Unit) (fun ζ => .of [(1, .one (.d (.v (.int .i64 (IntKind.wrap .i64 (left - (a.name.size : Int))))))), (11, .one (.d (.v (.bool (decide ((IntKind.wrap .i64 (left - (a.name.size : Int))) < 0))))))] []) [⟨[1], some 10, [], []⟩, ⟨[10], some 11, [], []⟩] (fun k4 => ?_) ?_
 ·skip
  refine .move (.no rfl) rfl rfl rfl rfl ?_
  refine .bin (.no rfl) rfl rfl rfl rfl rfl rfl ?_
  exact .fin () (.of (.cons rfl (.cons rfl .nil)) .nil)
 intro _
 refine .cond (t := decide ((IntKind.wrap .i64 (left - (a.name.size : Int))) < 0)) rfl (fun c0 => ?_) (fun c0 => ?_)
 ·have c0 := of_decide_eq_true c0
  refine .seq ?_
  refine .reg (X := Unit) (fun ζ => .of [(4, .one (.d (.v (.int .i64 (-1)))))] []) [⟨[], some 4, [], []⟩] (fun k5 => ?_) ?_
  ·skip
   refine .assign (.no rfl) rfl rfl rfl rfl ?_
   exact .fin () (.of (.cons rfl .nil) .nil)
  intro _
  refine .ret ?_
  have e6 : (-1) = (szA a left) := by (rw [wrap_le (by omega) (by omega)] at c0; simp only [szA]; rw [if_pos c0])
  have hc7 := eq1 (fun z1 => SV.one (.d (.v (.int .i64 (z1))))) e6
  show _ ∧ _
  exact ⟨.inr rfl, .done ⟨_, [], [], _, .one (c := .d (.v (.int .i64 (szA a left)))) (hc7) .nil, .cons (Reads.d _).gives .nil, nodupB_ok rfl, by simp, (by simp)⟩⟩
 ·have c0 := of_decide_eq_false c0
  refine .skip ?_
  refine .seq ?_
  refine .reg (X := Unit) (fun ζ => .of [(4, .one (.d (.v (.int .i64 (IntKind.wrap .i64 (left - (a.name.size : Int)))))))] []) [⟨[1], some 12, [], []⟩, ⟨[12], some 4, [], []⟩] (fun k8 => ?_) ?_
  ·skip
   refine .move (.no rfl) rfl rfl rfl rfl ?_
   refine .assign (.no rfl) rfl rfl rfl rfl ?_
   exact .fin () (.of (.cons rfl .nil) .nil)
  intro _
  refine .ret ?_
  have e9 : (IntKind.wrap .i64 (left - (a.name.size : Int))) = (szA a left) := by (rw [wrap_le (by omega) (by omega)] at c0 ⊢; simp only [szA]; rw [if_neg c0])
  have hc10 := eq1 (fun z1 => SV.one (.d (.v (.int .i64 (z1))))) e9
  show _ ∧ _
  exact ⟨.inr rfl, .done ⟨_, [], [], _, .one (c := .d (.v (.int .i64 (szA a left)))) (hc10) .nil, .cons (Reads.d _).gives .nil, nodupB_ok rfl, by simp, (by simp)⟩⟩
theorem c_szArrS (a : List Arr) (left : Int) (hl : 0 ≤ left ∧ left ≤ 1048576) (hw : ∀ x ∈ a, 0 ≤ arrW x ∧ arrW x ≤ 9223372036854775807) : Trip Tryz.prog 34 [(false, 1), (false, 1)] ([.sl false 115 2 (List.map Arr.c (a))] ++ [.v (.int .i64 (left))]) [(false, 1)] [.v (.int .i64 (szL arrW a left))] [] := by
 refine Trip.of Tryz.func34 (by decide) (c := _) rfl rfl (shB_ok rfl) (Nat.le_of_ble_eq_true rfl) rfl (AftOk.nil _) ?_
 refine .sat (t := 0) rfl (fun hs1 => ?_)
 have hs1l : a.length ≤ 9223372036854775807 := hs1.maplen
 refine .seq ?_
 refine .reg (X := Unit) (fun ζ => .of [(0, .one (.d (.sl false 115 2 (List.map Arr.c (a))))), (1, .one (.d (.v (.int .i64 (left)))))] []) [⟨[], some 4, [], []⟩] (fun k2 => ?_) ?_
 ·skip
  refine .assign (.no rfl) rfl rfl rfl rfl ?_
  exact .fin () (.of (.cons rfl (.cons rfl .nil)) .nil)
 intro _
 refine .seq ?_
 refine .reg (X := Unit) (fun ζ => .of [(0, .one (.d (.sl false 115 2 (List.map Arr.c (a))))), (1, .one (.d (.v (.int .i64 (IntKind.wrap .i64 (left - (a.length : Int)))))))] []) [⟨[1], some 6, [], []⟩, ⟨[0], some 7, [], []⟩, ⟨[7], some 8, [], []⟩, ⟨[6, 8], some 9, [], []⟩, ⟨[9], some 1, [], []⟩] (fun k3 => ?_) ?_
 ·skip
  refine .move (.no rfl) rfl rfl rfl rfl ?_
  refine .move (.no rfl) rfl rfl rfl rfl ?_
  refine .len (.no rfl) rfl (z := (a.length : Int)) t23 rfl rfl rfl (.d _ _) (map_len _ _) rfl ?_
  refine .bin (.no rfl) rfl rfl rfl rfl rfl rfl ?_
  refine .assign (.no rfl) rfl rfl rfl rfl ?_
  exact .fin () (.of (.cons rfl (.cons rfl .nil)) .nil)
 intro _
 refine .seq ?_
 refine .seq ?_
 refine .reg (X := Unit) (fun ζ => .of [(0, .one (.d (.sl false 115 2 (List.map Arr.c (a))))), (1, .one (.d (.v (.int .i64 (IntKind.wrap .i64 (left - (a.length : Int))))))), (11, .one (.d (.v (.bool (decide ((IntKind.wrap .i64 (left - (a.length : Int))) < 0))))))] []) [⟨[1], some 10, [], []⟩, ⟨[10], some 11, [], []⟩] (fun k4 => ?_) ?_
 ·skip
  refine .move (.no rfl) rfl rfl rfl rfl ?_
  refine .bin (.no rfl) rfl rfl rfl rfl rfl rfl ?_
  exact .fin () (.of (.cons rfl (.cons rfl (.cons rfl .nil))) .nil)
 intro _
 refine .cond (t := decide ((IntKind.wrap .i64 (left - (a.length : Int))) < 0)) rfl (fun c0 => ?_) (fun c0 => ?_)
 ·have c0 := of_decide_eq_true c0
  refine .seq ?_
  refine .reg (X := Unit) (fun ζ => .of [(4, .one (.d (.v (.int .i64 (-1)))))] []) [⟨[], some 4, [], []⟩] (fun k5 => ?_) ?_
  ·skip
   refine .assign (.no rfl) rfl rfl rfl rfl ?_
   exact .fin () (.of (.cons rfl .nil) .nil)
  intro _
  refine .ret ?_
  have e6 : (-1) = (szL arrW a left) := by (rw [wrap_le (by omega) (by omega)] at c0; simp only [szL]; rw [if_pos c0])
  have hc7 := eq1 (fun z1 => SV.one (.d (.v (.int .i64 (z1))))) e6
  show _ ∧ _
  exact ⟨.inr rfl, .done ⟨_, [], [], _, .one (c := .d (.v (.int .i64 (szL arrW a left)))) (hc7) .nil, .cons (Reads.d _).gives .nil, nodupB_ok rfl, by simp, (by simp)⟩⟩
 ·have c0 := of_decide_eq_false c0
  refine .skip ?_
  refine .seq ?_
  refine .seq ?_
  refine .reg (X := Unit) (fun ζ => .of [(0, .one (.d (.sl false 115 2 (List.map Arr.c (a))))), (1, .one (.d (.v (.int .i64 (IntKind.wrap .i64 (left - (a.length : Int))))))), (5, .one (.d (.v (.int .i64 (0)))))] []) [⟨[], some 5, [], []⟩] (fun k8 => ?_) ?_
  ·skip
   refine .assign (.no rfl) rfl rfl rfl rfl ?_
   exact .fin () (.of (.cons rfl (.cons rfl (.cons rfl .nil))) .nil)
  intro _
  refine .block ?_
  refine .loop (X := Nat × Int) (fun ζ => .of [(0, .one (.d (.sl false 115 2 (List.map Arr.c (a))))), (1, .one (.d (.v (.int .i64 (ζ.2))))), (5, .one (.d (.v (.int .i64 ((ζ.1 : Int))))))] []) (fun ζ => ζ.1 ≤ a.length ∧ 0 ≤ ζ.2 ∧ ζ.2 ≤ 1048576 ∧ ¬ left - a.length < 0 ∧ szGo arrW ζ.2 (a.drop ζ.1) = szGo arrW (left - a.length) a) (fun ζ => a.length - ζ.1) ?_ ?_
  ·skip
   exact .here (0, (left - a.length)) (.of (.cons rfl (.cons (svI (show (IntKind.wrap .i64 (left - (a.length : Int))) = ((left - a.length)) by first | rfl | omega | exact wrap_le (by omega) (by omega) | (rw [wrap_le (by omega) (by omega)]; omega) | (rw [szA_neg] at c2; simp only [szA, arrW] at c2 ⊢; rw [if_neg c2]))) (.cons (svI (show (0) = ((0 : Int)) by first | rfl | omega | exact wrap_le (by omega) (by omega) | (rw [wrap_le (by omega) (by omega)]; omega) | (rw [szA_neg] at c2; simp only [szA, arrW] at c2 ⊢; rw [if_neg c2]))) .nil))) .nil) (show 0 ≤ a.length ∧ 0 ≤ (left - a.length) ∧ (left - a.length) ≤ 1048576 ∧ ¬ left - a.length < 0 ∧ szGo arrW (left - a.length) (a.drop 0) = szGo arrW (left - a.length) a by (rw [wrap_le (by omega) (by omega)] at c0; exact ⟨by omega, by omega, by omega, c0, by simp⟩))
  ·rintro ⟨j, v⟩ hI
   have hI : j ≤ a.length ∧ 0 ≤ v ∧ v ≤ 1048576 ∧ ¬ left - a.length < 0 ∧ szGo arrW v (a.drop j) = szGo arrW (left - a.length) a := hI
   refine .seq ?_
   refine .seq ?_
   refine .reg (X := Unit) (fun ζ => .of [(0, .one (.d (.sl false 115 2 (List.map Arr.c (a))))), (1, .one (.d (.v (.int .i64 (v))))), (5, .one (.d (.v (.int .i64 ((j : Int)))))), (15, .one (.d (.v (.bool (decide ((j : Int) < (a.length : Int)))))))] []) [⟨[5], some 12, [], []⟩, ⟨[0], some 13, [], []⟩, ⟨[13], some 14, [], []⟩, ⟨[12, 14], some 15, [], []⟩] (fun k9 => ?_) ?_
   ·skip
    refine .move (.no rfl) rfl rfl rfl rfl ?_
    refine .move (.no rfl) rfl rfl rfl rfl ?_
    refine .len (.no rfl) rfl (z := (a.length : Int)) t23 rfl rfl rfl (.d _ _) (map_len _ _) rfl ?_
    refine .bin (.no rfl) rfl rfl rfl rfl rfl rfl ?_
    exact .fin () (.of (.cons rfl (.cons rfl (.cons rfl (.cons rfl .nil)))) .nil)
   intro _
   refine .cond (t := decide ((j : Int) < (a.length : Int))) rfl (fun c1 => ?_) (fun c1 => ?_)
   ·have c1 := of_decide_eq_true c1
    refine .skip ?_
    refine .seq ?_
    refine .block ?_
    refine .seq ?_
    refine .reg (X := Unit) (fun ζ => .of [(0, .one (.d (.sl false 115 2 (List.map Arr.c (a))))), (1, .one (.d (.v (.int .i64 (szA (a.getD j default) v))))), (5, .one (.d (.v (.int .i64 ((j : Int))))))] []) [⟨[0], some 18, [], []⟩, ⟨[5], some 19, [], []⟩, ⟨[18, 19], some 20, [], []⟩, ⟨[20], some 21, [], []⟩, ⟨[1], some 22, [], []⟩, ⟨[21, 22], some 23, [], []⟩, ⟨[23], some 1, [], []⟩] (fun k10 => ?_) ?_
    ·skip
     refine .move (.no rfl) rfl rfl rfl rfl ?_
     refine .move (.no rfl) rfl rfl rfl rfl ?_
     refine .indexAddr (.no rfl) rfl (j) t23 rfl t115 rfl rfl rfl (.d _ _) rfl rfl rfl (map_get (by omega)) rfl rfl ?_
     refine .load (.no rfl) rfl t115 rfl rfl (.d _) rfl rfl rfl rfl ?_
     refine .move (.no rfl) rfl rfl rfl rfl ?_
     refine .call (.no rfl) rfl [] [] (c_szArr (a.getD j default) v (by first | exact ⟨hI.2.1, hI.2.2.1⟩ | (have hx := (hw _ (getD_mem (j := j) (by omega))).2; simp only [arrW] at hx; omega)) (by first | exact ⟨hI.2.1, hI.2.2.1⟩ | (have hx := (hw _ (getD_mem (j := j) (by omega))).2; simp only [arrW] at hx; omega))) rfl rfl rfl rfl rfl (.cons (Reads.d _).gives (.cons (Reads.d _).gives (.cons (Reads.d _).gives .nil))) rfl rfl (fun h => absurd rfl h) (.own [23, 0] .nil) (.nil) rfl rfl rfl (by simp) rfl rfl rfl ?_
     refine .assign (.no rfl) rfl rfl rfl rfl ?_
     exact .fin () (.of (.cons rfl (.cons rfl (.cons rfl .nil))) .nil)
    intro _
    refine .seq ?_
    refine .reg (X := Unit) (fun ζ => .of [(0, .one (.d (.sl false 115 2 (List.map Arr.c (a))))), (1, .one (.d (.v (.int .i64 (szA (a.getD j default) v))))), (5, .one (.d (.v (.int .i64 ((j : Int)))))), (25, .one (.d (.v (.bool (decide ((szA (a.getD j default) v) < 0))))))] []) [⟨[1], some 24, [], []⟩, ⟨[24], some 25, [], []⟩] (fun k11 => ?_) ?_
    ·skip
     refine .move (.no rfl) rfl rfl rfl rfl ?_
     refine .bin (.no rfl) rfl rfl rfl rfl rfl rfl ?_
     exact .fin () (.of (.cons rfl (.cons rfl (.cons rfl (.cons rfl .nil)))) .nil)
    intro _
    refine .cond (t := decide ((szA (a.getD j default) v) < 0)) rfl (fun c2 => ?_) (fun c2 => ?_)
    ·have c2 := of_decide_eq_true c2
     refine .seq ?_
     refine .reg (X := Unit) (fun ζ => .of [(4, .one (.d (.v (.int .i64 (-1)))))] []) [⟨[], some 4, [], []⟩] (fun k12 => ?_) ?_
     ·skip
      refine .assign (.no rfl) rfl rfl rfl rfl ?_
      exact .fin () (.of (.cons rfl .nil) .nil)
     intro _
     refine .ret ?_
     have e13 : (-1) = (szL arrW a left) := by (rw [szA_neg] at c2; simp only [szL]; rw [if_neg hI.2.2.2.1, ← hI.2.2.2.2, szGo_fail (by omega) c2])
     have hc14 := eq1 (fun z1 => SV.one (.d (.v (.int .i64 (z1))))) e13
     show _ ∧ _
     exact ⟨.inr rfl, .done ⟨_, [], [], _, .one (c := .d (.v (.int .i64 (szL arrW a left)))) (hc14) .nil, .cons (Reads.d _).gives .nil, nodupB_ok rfl, by simp, (by simp)⟩⟩
    ·have c2 := of_decide_eq_false c2
     refine .skip ?_
     refine .reg (X := Unit) (fun ζ => .of [(0, .one (.d (.sl false 115 2 (List.map Arr.c (a))))), (1, .one (.d (.v (.int .i64 (szA (a.getD j default) v))))), (5, .one (.d (.v (.int .i64 (IntKind.wrap .i64 ((j : Int) + 1))))))] []) [⟨[5], some 16, [], []⟩, ⟨[16], some 17, [], []⟩, ⟨[17], some 5, [], []⟩] (fun k15 => ?_) ?_
     ·skip
      refine .move (.no rfl) rfl rfl rfl rfl ?_
      refine .bin (.no rfl) rfl rfl rfl rfl rfl rfl ?_
      refine .assign (.no rfl) rfl rfl rfl rfl ?_
      exact .fin () (.of (.cons rfl (.cons rfl (.cons rfl .nil))) .nil)
     intro _
     exact .here ((j + 1), (v - arrW (a.getD j default))) (.of (.cons rfl (.cons (svI (show (szA (a.getD j default) v) = ((v - arrW (a.getD j default))) by first | rfl | omega | exact wrap_le (by omega) (by omega) | (rw [wrap_le (by omega) (by omega)]; omega) | (rw [szA_neg] at c2; simp only [szA, arrW] at c2 ⊢; rw [if_neg c2]))) (.cons (svI (show (IntKind.wrap .i64 ((j : Int) + 1)) = (((j + 1) : Int)) by first | rfl | omega | exact wrap_le (by omega) (by omega) | (rw [wrap_le (by omega) (by omega)]; omega) | (rw [szA_neg] at c2; simp only [szA, arrW] at c2 ⊢; rw [if_neg c2]))) .nil))) .nil) ⟨(show (j + 1) ≤ a.length ∧ 0 ≤ (v - arrW (a.getD j default)) ∧ (v - arrW (a.getD j default)) ≤ 1048576 ∧ ¬ left - a.length < 0 ∧ szGo arrW (v - arrW (a.getD j default)) (a.drop (j + 1)) = szGo arrW (left - a.length) a by (have hx : 0 ≤ arrW (a.getD j default) ∧ arrW (a.getD j default) ≤ 9223372036854775807 := hw _ (getD_mem (by omega)); rw [szA_neg] at c2; exact ⟨by omega, by omega, by omega, hI.2.2.2.1, by rw [← hI.2.2.2.2]; exact (szGo_step (by omega) c2).symm⟩)), (show a.length - (j + 1) < a.length - j by omega)⟩
   ·have c1 := of_decide_eq_false c1
    refine .exit ?_
    refine .seq ?_
    refine .reg (X := Unit) (fun ζ => .of [(4, .one (.d (.v (.int .i64 (v)))))] []) [⟨[1], some 26, [], []⟩, ⟨[26], some 4, [], []⟩] (fun k16 => ?_) ?_
    ·skip
     refine .move (.no rfl) rfl rfl rfl rfl ?_
     refine .assign (.no rfl) rfl rfl rfl rfl ?_
     exact .fin () (.of (.cons rfl .nil) .nil)
    intro _
    refine .ret ?_
    have e17 : (v) = (szL arrW a left) := by (simp only [szL]; rw [if_neg hI.2.2.2.1, ← hI.2.2.2.2, szGo_end (by omega)])
    have hc18 := eq1 (fun z1 => SV.one (.d (.v (.int .i64 (z1))))) e17
    show _ ∧ _
    exact ⟨.inr rfl, .done ⟨_, [], [], _, .one (c := .d (.v (.int .i64 (szL arrW a left)))) (hc18) .nil, .cons (Reads.d _).gives .nil, nodupB_ok rfl, by simp, (by simp)⟩⟩
theorem c_szDecl (a : Decl) (left : Int) (hl : 0 ≤ left ∧ left ≤ 1048576) (hv : ∀ x ∈ a.vars, 0 ≤ strW x ∧ strW x ≤ 9223372036854775807) (hf : ∀ x ∈ a.flags, 0 ≤ strW x ∧ strW x ≤ 9223372036854775807) (ha : ∀ x ∈ a.arrays, 0 ≤ arrW x ∧ arrW x ≤ 9223372036854775807) : Trip Tryz.prog 7 [(true, 3), (false, 1)] (Decl.c25 a ++ [.v (.int .i64 (left))]) [(false, 1)] [.v (.int .i64 (szDecl a left))] [] := by
 refine Trip.of Tryz.func7 (by decide) (c := _) rfl rfl (shB_ok rfl) (Nat.le_of_ble_eq_true rfl) rfl (AftOk.nil _) ?_
 refine .satA (t := 0) (i := 0) rfl rfl (fun hs1 => ?_)
 have hs1l : a.vars.length ≤ 9223372036854775807 := hs1.maplen
 refine .satA (t := 0) (i := 1) rfl rfl (fun hs2 => ?_)
 have hs2l : a.flags.length ≤ 9223372036854775807 := hs2.maplen
 refine .satA (t := 0) (i := 2) rfl rfl (fun hs3 => ?_)
 have hs3l : a.arrays.length ≤ 9223372036854775807 := hs3.maplen
 refine .seq ?_
 refine .reg (X := Nat) (fun ζ => .of [(1, .one (.d (.v (.int .i64 (left))))), (2, .one (.ptr [2] (ζ) 0))] [([2], (ζ, ζ, .box [.d (.sl false 9 1 (List.map strc (a.vars))), .d (.sl false 9 1 (List.map strc (a.flags))), .d (.sl false 115 2 (List.map Arr.c (a.arrays)))]))]) [⟨[0], some 2, [], [[2]]⟩, ⟨[], some 4, [], []⟩] (fun k4 => ?_) ?_
 ·skip
  refine .box (.no rfl) rfl rfl rfl rfl rfl ?_
  refine .assign (.no rfl) rfl rfl rfl rfl ?_
  exact .fin k4 (.of (.cons rfl (.cons rfl .nil)) (.cons rfl .nil))
 intro g5
 refine .seq ?_
 refine .reg (X := Unit) (fun ζ => .of [(1, .one (.d (.v (.int .i64 (szL strW a.vars left))))), (2, .one (.ptr [2] (g5) 0))] [([2], (g5, g5, .box [.d (.sl false 9 1 (List.map strc (a.vars))), .d (.sl false 9 1 (List.map strc (a.flags))), .d (.sl false 115 2 (List.map Arr.c (a.arrays)))]))]) [⟨[2], some 5, [], []⟩, ⟨[5], some 6, [[2]], []⟩, ⟨[1], some 7, [], []⟩, ⟨[6, 7], some 8, [], []⟩, ⟨[8], some 1, [], []⟩] (fun k6 => ?_) ?_
 ·skip
  refine .fieldAddrP (.no rfl) rfl t25 rfl rfl t22 rfl rfl rfl rfl ?_
  refine .load (.no rfl) rfl t22 rfl rfl (.ptr _ _ _ _ _ rfl) rfl rfl rfl rfl ?_
  refine .move (.no rfl) rfl rfl rfl rfl ?_
  refine .call (.no rfl) rfl [] [] (c_szStringS a.vars left (by first | assumption | exact ⟨by omega, szL_le (by omega) ‹_› (by first | omega | exact szL_le (by omega) ‹_› (by omega))⟩) (by first | assumption | exact ⟨by omega, szL_le (by omega) ‹_› (by first | omega | exact szL_le (by omega) ‹_› (by omega))⟩)) rfl rfl rfl rfl rfl (.cons (Reads.d _).gives (.cons (Reads.d _).gives .nil)) rfl rfl (fun h => absurd rfl h) (.own [8, 0] .nil) (.nil) rfl rfl rfl (by simp) rfl rfl rfl ?_
  refine .assign (.no rfl) rfl rfl rfl rfl ?_
  exact .fin () (.of (.cons rfl (.cons rfl .nil)) (.cons rfl .nil))
 intro _
 refine .seq ?_
 refine .seq ?_
 refine .reg (X := Unit) (fun ζ => .of [(1, .one (.d (.v (.int .i64 (szL strW a.vars left))))), (2, .one (.ptr [2] (g5) 0)), (10, .one (.d (.v (.bool (decide ((szL strW a.vars left) < 0))))))] [([2], (g5, g5, .box [.d (.sl false 9 1 (List.map strc (a.vars))), .d (.sl false 9 1 (List.map strc (a.flags))), .d (.sl false 115 2 (List.map Arr.c (a.arrays)))]))]) [⟨[1], some 9, [], []⟩, ⟨[9], some 10, [], []⟩] (fun k7 => ?_) ?_
 ·skip
  refine .move (.no rfl) rfl rfl rfl rfl ?_
  refine .bin (.no rfl) rfl rfl rfl rfl rfl rfl ?_
  exact .fin () (.of (.cons rfl (.cons rfl (.cons rfl .nil))) (.cons rfl .nil))
 intro _
 refine .cond (t := decide ((szL strW a.vars left) < 0)) rfl (fun c0 => ?_) (fun c0 => ?_)
 ·have c0 := of_decide_eq_true c0
  refine .seq ?_
  refine .reg (X := Unit) (fun ζ => .of [(4, .one (.d (.v (.int .i64 (-1)))))] []) [⟨[], some 4, [], []⟩] (fun k8 => ?_) ?_
  ·skip
   refine .assign (.no rfl) rfl rfl rfl rfl ?_
   exact .fin () (.of (.cons rfl .nil) .nil)
  intro _
  refine .ret ?_
  have e9 : (-1) = (szDecl a left) := by (simp only [szDecl]; rw [if_pos c0])
  have hc10 := eq1 (fun z1 => SV.one (.d (.v (.int .i64 (z1))))) e9
  show _ ∧ _
  exact ⟨.inr rfl, .done ⟨_, [], [], _, .one (c := .d (.v (.int .i64 (szDecl a left)))) (hc10) .nil, .cons (Reads.d _).gives .nil, nodupB_ok rfl, by simp, (by simp)⟩⟩
 ·have c0 := of_decide_eq_false c0
  refine .skip ?_
  refine .seq ?_
  refine .reg (X := Unit) (fun ζ => .of [(1, .one (.d (.v (.int .i64 (szL strW a.flags (szL strW a.vars left)))))), (2, .one (.ptr [2] (g5) 0))] [([2], (g5, g5, .box [.d (.sl false 9 1 (List.map strc (a.vars))), .d (.sl false 9 1 (List.map strc (a.flags))), .d (.sl false 115 2 (List.map Arr.c (a.arrays)))]))]) [⟨[2], some 11, [], []⟩, ⟨[11], some 12, [[2]], []⟩, ⟨[1], some 13, [], []⟩, ⟨[12, 13], some 14, [], []⟩, ⟨[14], some 1, [], []⟩] (fun k11 => ?_) ?_
  ·skip
   refine .fieldAddrP (.no rfl) rfl t25 rfl rfl t22 rfl rfl rfl rfl ?_
   refine .load (.no rfl) rfl t22 rfl rfl (.ptr _ _ _ _ _ rfl) rfl rfl rfl rfl ?_
   refine .move (.no rfl) rfl rfl rfl rfl ?_
   refine .call (.no rfl) rfl [] [] (c_szStringS a.flags (szL strW a.vars left) (by first | assumption | exact ⟨by omega, szL_le (by omega) ‹_› (by first | omega | exact szL_le (by omega) ‹_› (by omega))⟩) (by first | assumption | exact ⟨by omega, szL_le (by omega) ‹_› (by first | omega | exact szL_le (by omega) ‹_› (by omega))⟩)) rfl rfl rfl rfl rfl (.cons (Reads.d _).gives (.cons (Reads.d _).gives .nil)) rfl rfl (fun h => absurd rfl h) (.own [14, 0] .nil) (.nil) rfl rfl rfl (by simp) rfl rfl rfl ?_
   refine .assign (.no rfl) rfl rfl rfl rfl ?_
   exact .fin () (.of (.cons rfl (.cons rfl .nil)) (.cons rfl .nil))
  intro _
  refine .seq ?_
  refine .seq ?_
  refine .reg (X := Unit) (fun ζ => .of [(1, .one (.d (.v (.int .i64 (szL strW a.flags (szL strW a.vars left)))))), (2, .one (.ptr [2] (g5) 0)), (16, .one (.d (.v (.bool (decide ((szL strW a.flags (szL strW a.vars left)) < 0))))))] [([2], (g5, g5, .box [.d (.sl false 9 1 (List.map strc (a.vars))), .d (.sl false 9 1 (List.map strc (a.flags))), .d (.sl false 115 2 (List.map Arr.c (a.arrays)))]))]) [⟨[1], some 15, [], []⟩, ⟨[15], some 16, [], []⟩] (fun k12 => ?_) ?_
  ·skip
   refine .move (.no rfl) rfl rfl rfl rfl ?_
   refine .bin (.no rfl) rfl rfl rfl rfl rfl rfl ?_
   exact .fin () (.of (.cons rfl (.cons rfl (.cons rfl .nil))) (.cons rfl .nil))
  intro _
  refine .cond (t := decide ((szL strW a.flags (szL strW a.vars left)) < 0)) rfl (fun c1 => ?_) (fun c1 => ?_)
  ·have c1 := of_decide_eq_true c1
   refine .seq ?_
   refine .reg (X := Unit) (fun ζ => .of [(4, .one (.d (.v (.int .i64 (-1)))))] []) [⟨[], some 4, [], []⟩] (fun k13 => ?_) ?_
   ·skip
    refine .assign (.no rfl) rfl rfl rfl rfl ?_
    exact .fin () (.of (.cons rfl .nil) .nil)
   intro _
   refine .ret ?_
   have e14 : (-1) = (szDecl a left) := by (simp only [szDecl]; rw [if_neg c0, if_pos c1])
   have hc15 := eq1 (fun z1 => SV.one (.d (.v (.int .i64 (z1))))) e14
   show _ ∧ _
   exact ⟨.inr rfl, .done ⟨_, [], [], _, .one (c := .d (.v (.int .i64 (szDecl a left)))) (hc15) .nil, .cons (Reads.d _).gives .nil, nodupB_ok rfl, by simp, (by simp)⟩⟩
  ·have c1 := of_decide_eq_false c1
   refine .skip ?_
   refine .seq ?_
   refine .reg (X := Unit) (fun ζ => .of [(1, .one (.d (.v (.int .i64 (szL arrW a.arrays (szL strW a.flags (szL strW a.vars left)))))))] []) [⟨[2], some 17, [], []⟩, ⟨[17], some 18, [[2]], []⟩, ⟨[1], some 19, [], []⟩, ⟨[18, 19], some 20, [], []⟩, ⟨[20], some 1, [], []⟩] (fun k16 => ?_) ?_
   ·skip
    refine .fieldAddrP (.no rfl) rfl t25 rfl rfl t23 rfl rfl rfl rfl ?_
    refine .load (.no rfl) rfl t23 rfl rfl (.ptr _ _ _ _ _ rfl) rfl rfl rfl rfl ?_
    refine .move (.no rfl) rfl rfl rfl rfl ?_
    refine .call (.no rfl) rfl [] [] (c_szArrS a.arrays (szL strW a.flags (szL strW a.vars left)) (by first | assumption | exact ⟨by omega, szL_le (by omega) ‹_› (by first | omega | exact szL_le (by omega) ‹_› (by omega))⟩) (by first | assumption | exact ⟨by omega, szL_le (by omega) ‹_› (by first | omega | exact szL_le (by omega) ‹_› (by omega))⟩)) rfl rfl rfl rfl rfl (.cons (Reads.d _).gives (.cons (Reads.d _).gives .nil)) rfl rfl (fun h => absurd rfl h) (.own [20, 0] .nil) (.nil) rfl rfl rfl (by simp) rfl rfl rfl ?_
    refine .assign (.no rfl) rfl rfl rfl rfl ?_
    exact .fin () (.of (.cons rfl .nil) .nil)
   intro _
   refine .seq ?_
   refine .seq ?_
   refine .reg (X := Unit) (fun ζ => .of [(1, .one (.d (.v (.int .i64 (szL arrW a.arrays (szL strW a.flags (szL strW a.vars left))))))), (22, .one (.d (.v (.bool (decide ((szL arrW a.arrays (szL strW a.flags (szL strW a.vars left))) < 0))))))] []) [⟨[1], some 21, [], []⟩, ⟨[21], some 22, [], []⟩] (fun k17 => ?_) ?_
   ·skip
    refine .move (.no rfl) rfl rfl rfl rfl ?_
    refine .bin (.no rfl) rfl rfl rfl rfl rfl rfl ?_
    exact .fin () (.of (.cons rfl (.cons rfl .nil)) .nil)
   intro _
   refine .cond (t := decide ((szL arrW a.arrays (szL strW a.flags (szL strW a.vars left))) < 0)) rfl (fun c2 => ?_) (fun c2 => ?_)
   ·have c2 := of_decide_eq_true c2
    refine .seq ?_
    refine .reg (X := Unit) (fun ζ => .of [(4, .one (.d (.v (.int .i64 (-1)))))] []) [⟨[], some 4, [], []⟩] (fun k18 => ?_) ?_
    ·skip
     refine .assign (.no rfl) rfl rfl rfl rfl ?_
     exact .fin () (.of (.cons rfl .nil) .nil)
    intro _
    refine .ret ?_
    have e19 : (-1) = (szDecl a left) := by (simp only [szDecl]; rw [if_neg c0, if_neg c1, if_pos c2])
    have hc20 := eq1 (fun z1 => SV.one (.d (.v (.int .i64 (z1))))) e19
    show _ ∧ _
    exact ⟨.inr rfl, .done ⟨_, [], [], _, .one (c := .d (.v (.int .i64 (szDecl a left)))) (hc20) .nil, .cons (Reads.d _).gives .nil, nodupB_ok rfl, by simp, (by simp)⟩⟩
   ·have c2 := of_decide_eq_false c2
    refine .skip ?_
    refine .seq ?_
    refine .reg (X := Unit) (fun ζ => .of [(4, .one (.d (.v (.int .i64 (szL arrW a.arrays (szL strW a.flags (szL strW a.vars left)))))))] []) [⟨[1], some 23, [], []⟩, ⟨[23], some 4, [], []⟩] (fun k21 => ?_) ?_
    ·skip
     refine .move (.no rfl) rfl rfl rfl rfl ?_
     refine .assign (.no rfl) rfl rfl rfl rfl ?_
     exact .fin () (.of (.cons rfl .nil) .nil)
    intro _
    refine .ret ?_
    have e22 : (szL arrW a.arrays (szL strW a.flags (szL strW a.vars left))) = (szDecl a left) := by (simp only [szDecl]; rw [if_neg c0, if_neg c1, if_neg c2])
    have hc23 := eq1 (fun z1 => SV.one (.d (.v (.int .i64 (z1))))) e22
    show _ ∧ _
    exact ⟨.inr rfl, .done ⟨_, [], [], _, .one (c := .d (.v (.int .i64 (szDecl a left)))) (hc23) .nil, .cons (Reads.d _).gives .nil, nodupB_ok rfl, by simp, (by simp)⟩⟩
theorem c_szIntervalS (a : List Iv) (left : Int) (hl : 0 ≤ left ∧ left ≤ 1048576) : Trip Tryz.prog 78 [(false, 1), (false, 1)] ([.sl false 156 2 (List.map Iv.c (a))] ++ [.v (.int .i64 (left))]) [(false, 1)] [.v (.int .i64 (szIvs a left))] [] := by
 refine Trip.of Tryz.func78 (by decide) (c := _) rfl rfl (shB_ok rfl) (Nat.le_of_ble_eq_true rfl) rfl (AftOk.nil _) ?_
 refine .sat (t := 0) rfl (fun hs1 => ?_)
 have hs1l : a.length ≤ 9223372036854775807 := hs1.maplen
 refine .seq ?_
 refine .reg (X := Unit) (fun ζ => .of [(0, .one (.d (.sl false 156 2 (List.map Iv.c (a))))), (1, .one (.d (.v (.int .i64 (left)))))] []) [⟨[], some 4, [], []⟩] (fun k2 => ?_) ?_
 ·skip
  refine .assign (.no rfl) rfl rfl rfl rfl ?_
  exact .fin () (.of (.cons rfl (.cons rfl .nil)) .nil)
 intro _
 refine .seq ?_
 refine .reg (X := Unit) (fun ζ => .of [(1, .one (.d (.v (.int .i64 (IntKind.wrap .i64 (left - (a.length : Int)))))))] []) [⟨[1], some 5, [], []⟩, ⟨[0], some 6, [], []⟩, ⟨[6], some 7, [], []⟩, ⟨[5, 7], some 8, [], []⟩, ⟨[8], some 1, [], []⟩] (fun k3 => ?_) ?_
 ·skip
  refine .move (.no rfl) rfl rfl rfl rfl ?_
  refine .move (.no rfl) rfl rfl rfl rfl ?_
  refine .len (.no rfl) rfl (z := (a.length : Int)) t67 rfl rfl rfl (.d _ _) (map_len _ _) rfl ?_
  refine .bin (.no rfl) rfl rfl rfl rfl rfl rfl ?_
  refine .assign (.no rfl) rfl rfl rfl rfl ?_
  exact .fin () (.of (.cons rfl .nil) .nil)
 intro _
 refine .seq ?_
 refine .seq ?_
 refine .reg (X := Unit) (fun ζ => .of [(1, .one (.d (.v (.int .i64 (IntKind.wrap .i64 (left - (a.length : Int))))))), (10, .one (.d (.v (.bool (decide ((IntKind.wrap .i64 (left - (a.length : Int))) < 0))))))] []) [⟨[1], some 9, [], []⟩, ⟨[9], some 10, [], []⟩] (fun k4 => ?_) ?_
 ·skip
  refine .move (.no rfl) rfl rfl rfl rfl ?_
  refine .bin (.no rfl) rfl rfl rfl rfl rfl rfl ?_
  exact .fin () (.of (.cons rfl (.cons rfl .nil)) .nil)
 intro _
 refine .cond (t := decide ((IntKind.wrap .i64 (left - (a.length : Int))) < 0)) rfl (fun c0 => ?_) (fun c0 => ?_)
 ·have c0 := of_decide_eq_true c0
  refine .seq ?_
  refine .reg (X := Unit) (fun ζ => .of [(4, .one (.d (.v (.int .i64 (-1)))))] []) [⟨[], some 4, [], []⟩] (fun k5 => ?_) ?_
  ·skip
   refine .assign (.no rfl) rfl rfl rfl rfl ?_
   exact .fin () (.of (.cons rfl .nil) .nil)
  intro _
  refine .ret ?_
  have e6 : (-1) = (szIvs a left) := by (rw [wrap_le (by omega) (by omega)] at c0; simp only [szIvs]; rw [if_pos c0])
  have hc7 := eq1 (fun z1 => SV.one (.d (.v (.int .i64 (z1))))) e6
  show _ ∧ _
  exact ⟨.inr rfl, .done ⟨_, [], [], _, .one (c := .d (.v (.int .i64 (szIvs a left)))) (hc7) .nil, .cons (Reads.d _).gives .nil, nodupB_ok rfl, by simp, (by simp)⟩⟩
 ·have c0 := of_decide_eq_false c0
  refine .skip ?_
  refine .seq ?_
  refine .reg (X := Unit) (fun ζ => .of [(4, .one (.d (.v (.int .i64 (IntKind.wrap .i64 (left - (a.length : Int)))))))] []) [⟨[1], some 11, [], []⟩, ⟨[11], some 4, [], []⟩] (fun k8 => ?_) ?_
  ·skip
   refine .move (.no rfl) rfl rfl rfl rfl ?_
   refine .assign (.no rfl) rfl rfl rfl rfl ?_
   exact .fin () (.of (.cons rfl .nil) .nil)
  intro _
  refine .ret ?_
  have e9 : (IntKind.wrap .i64 (left - (a.length : Int))) = (szIvs a left) := by (rw [wrap_le (by omega) (by omega)] at c0 ⊢; simp only [szIvs]; rw [if_neg c0])
  have hc10 := eq1 (fun z1 => SV.one (.d (.v (.int .i64 (z1))))) e9
  show _ ∧ _
  exact ⟨.inr rfl, .done ⟨_, [], [], _, .one (c := .d (.v (.int .i64 (szIvs a left)))) (hc10) .nil, .cons (Reads.d _).gives .nil, nodupB_ok rfl, by simp, (by simp)⟩⟩
theorem c_szEnv (a : Env) (left : Int) (hl : 0 ≤ left ∧ left ≤ 1048576) : Trip Tryz.prog 35 [(true, 3), (false, 1)] (Env.c69 a ++ [.v (.int .i64 (left))]) [(false, 1)] [.v (.int .i64 (szEnv a left))] [] := by
 refine Trip.of Tryz.func35 (by decide) (c := _) rfl rfl (shB_ok rfl) (Nat.le_of_ble_eq_true rfl) rfl (AftOk.nil _) ?_
 refine .satA (t := 0) (i := 1) rfl rfl (fun hs1 => ?_)
 have hs1l : a.ints.length ≤ 9223372036854775807 := hs1.maplen
 refine .satA (t := 0) (i := 2) rfl rfl (fun hs2 => ?_)
 have hs2l : a.arrs.length ≤ 9223372036854775807 := hs2.maplen
 refine .seq ?_
 refine .reg (X := Nat) (fun ζ => .of [(1, .one (.d (.v (.int .i64 (left))))), (2, .one (.ptr [2] (ζ) 0))] [([2], (ζ, ζ, .box [.d (.v (.bool (a.live))), .d (.sl false 156 2 (List.map Iv.c (a.ints))), .d (.sl false 156 2 (List.map Iv.c (a.arrs)))]))]) [⟨[0], some 2, [], [[2]]⟩, ⟨[], some 4, [], []⟩] (fun k3 => ?_) ?_
 ·skip
  refine .box (.no rfl) rfl rfl rfl rfl rfl ?_
  refine .assign (.no rfl) rfl rfl rfl rfl ?_
  exact .fin k3 (.of (.cons rfl (.cons rfl .nil)) (.cons rfl .nil))
 intro g4
 refine .seq ?_
 refine .reg (X := Unit) (fun ζ => .of [(1, .one (.d (.v (.int .i64 (szIvs a.ints left))))), (2, .one (.ptr [2] (g4) 0))] [([2], (g4, g4, .box [.d (.v (.bool (a.live))), .d (.sl false 156 2 (List.map Iv.c (a.ints))), .d (.sl false 156 2 (List.map Iv.c (a.arrs)))]))]) [⟨[2], some 5, [], []⟩, ⟨[5], some 6, [[2]], []⟩, ⟨[1], some 7, [], []⟩, ⟨[6, 7], some 8, [], []⟩, ⟨[8], some 1, [], []⟩] (fun k5 => ?_) ?_
 ·skip
  refine .fieldAddrP (.no rfl) rfl t69 rfl rfl t67 rfl rfl rfl rfl ?_
  refine .load (.no rfl) rfl t67 rfl rfl (.ptr _ _ _ _ _ rfl) rfl rfl rfl rfl ?_
  refine .move (.no rfl) rfl rfl rfl rfl ?_
  refine .call (.no rfl) rfl [] [] (c_szIntervalS a.ints left (by first | assumption | exact ⟨by omega, szIvs_le (by omega)⟩)) rfl rfl rfl rfl rfl (.cons (Reads.d _).gives (.cons (Reads.d _).gives .nil)) rfl rfl (fun h => absurd rfl h) (.own [8, 0] .nil) (.nil) rfl rfl rfl (by simp) rfl rfl rfl ?_
  refine .assign (.no rfl) rfl rfl rfl rfl ?_
  exact .fin () (.of (.cons rfl (.cons rfl .nil)) (.cons rfl .nil))
 intro _
 refine .seq ?_
 refine .seq ?_
 refine .reg (X := Unit) (fun ζ => .of [(1, .one (.d (.v (.int .i64 (szIvs a.ints left))))), (2, .one (.ptr [2] (g4) 0)), (10, .one (.d (.v (.bool (decide ((szIvs a.ints left) < 0))))))] [([2], (g4, g4, .box [.d (.v (.bool (a.live))), .d (.sl false 156 2 (List.map Iv.c (a.ints))), .d (.sl false 156 2 (List.map Iv.c (a.arrs)))]))]) [⟨[1], some 9, [], []⟩, ⟨[9], some 10, [], []⟩] (fun k6 => ?_) ?_
 ·skip
  refine .move (.no rfl) rfl rfl rfl rfl ?_
  refine .bin (.no rfl) rfl rfl rfl rfl rfl rfl ?_
  exact .fin () (.of (.cons rfl (.cons rfl (.cons rfl .nil))) (.cons rfl .nil))
 intro _
 refine .cond (t := decide ((szIvs a.ints left) < 0)) rfl (fun c0 => ?_) (fun c0 => ?_)
 ·have c0 := of_decide_eq_true c0
  refine .seq ?_
  refine .reg (X := Unit) (fun ζ => .of [(4, .one (.d (.v (.int .i64 (-1)))))] []) [⟨[], some 4, [], []⟩] (fun k7 => ?_) ?_
  ·skip
   refine .assign (.no rfl) rfl rfl rfl rfl ?_
   exact .fin () (.of (.cons rfl .nil) .nil)
  intro _
  refine .ret ?_
  have e8 : (-1) = (szEnv a left) := by (simp only [szEnv]; rw [if_pos c0])
  have hc9 := eq1 (fun z1 => SV.one (.d (.v (.int .i64 (z1))))) e8
  show _ ∧ _
  exact ⟨.inr rfl, .done ⟨_, [], [], _, .one (c := .d (.v (.int .i64 (szEnv a left)))) (hc9) .nil, .cons (Reads.d _).gives .nil, nodupB_ok rfl, by simp, (by simp)⟩⟩
 ·have c0 := of_decide_eq_false c0
  refine .skip ?_
  refine .seq ?_
  refine .reg (X := Unit) (fun ζ => .of [(1, .one (.d (.v (.int .i64 (szIvs a.arrs (szIvs a.ints left))))))] []) [⟨[2], some 11, [], []⟩, ⟨[11], some 12, [[2]], []⟩, ⟨[1], some 13, [], []⟩, ⟨[12, 13], some 14, [], []⟩, ⟨[14], some 1, [], []⟩] (fun k10 => ?_) ?_
  ·skip
   refine .fieldAddrP (.no rfl) rfl t69 rfl rfl t67 rfl rfl rfl rfl ?_
   refine .load (.no rfl) rfl t67 rfl rfl (.ptr _ _ _ _ _ rfl) rfl rfl rfl rfl ?_
   refine .move (.no rfl) rfl rfl rfl rfl ?_
   refine .call (.no rfl) rfl [] [] (c_szIntervalS a.arrs (szIvs a.ints left) (by first | assumption | exact ⟨by omega, szIvs_le (by omega)⟩)) rfl rfl rfl rfl rfl (.cons (Reads.d _).gives (.cons (Reads.d _).gives .nil)) rfl rfl (fun h => absurd rfl h) (.own [14, 0] .nil) (.nil) rfl rfl rfl (by simp) rfl rfl rfl ?_
   refine .assign (.no rfl) rfl rfl rfl rfl ?_
   exact .fin () (.of (.cons rfl .nil) .nil)
  intro _
  refine .seq ?_
  refine .seq ?_
  refine .reg (X := Unit) (fun ζ => .of [(1, .one (.d (.v (.int .i64 (szIvs a.arrs (szIvs a.ints left)))))), (16, .one (.d (.v (.bool (decide ((szIvs a.arrs (szIvs a.ints left)) < 0))))))] []) [⟨[1], some 15, [], []⟩, ⟨[15], some 16, [], []⟩] (fun k11 => ?_) ?_
  ·skip
   refine .move (.no rfl) rfl rfl rfl rfl ?_
   refine .bin (.no rfl) rfl rfl rfl rfl rfl rfl ?_
   exact .fin () (.of (.cons rfl (.cons rfl .nil)) .nil)
  intro _
  refine .cond (t := decide ((szIvs a.arrs (szIvs a.ints left)) < 0)) rfl (fun c1 => ?_) (fun c1 => ?_)
  ·have c1 := of_decide_eq_true c1
   refine .seq ?_
   refine .reg (X := Unit) (fun ζ => .of [(4, .one (.d (.v (.int .i64 (-1)))))] []) [⟨[], some 4, [], []⟩] (fun k12 => ?_) ?_
   ·skip
    refine .assign (.no rfl) rfl rfl rfl rfl ?_
    exact .fin () (.of (.cons rfl .nil) .nil)
   intro _
   refine .ret ?_
   have e13 : (-1) = (szEnv a left) := by (simp only [szEnv]; rw [if_neg c0, if_pos c1])
   have hc14 := eq1 (fun z1 => SV.one (.d (.v (.int .i64 (z1))))) e13
   show _ ∧ _
   exact ⟨.inr rfl, .done ⟨_, [], [], _, .one (c := .d (.v (.int .i64 (szEnv a left)))) (hc14) .nil, .cons (Reads.d _).gives .nil, nodupB_ok rfl, by simp, (by simp)⟩⟩
  ·have c1 := of_decide_eq_false c1
   refine .skip ?_
   refine .seq ?_
   refine .reg (X := Unit) (fun ζ => .of [(4, .one (.d (.v (.int .i64 (szIvs a.arrs (szIvs a.ints left))))))] []) [⟨[1], some 17, [], []⟩, ⟨[17], some 4, [], []⟩] (fun k15 => ?_) ?_
   ·skip
    refine .move (.no rfl) rfl rfl rfl rfl ?_
    refine .assign (.no rfl) rfl rfl rfl rfl ?_
    exact .fin () (.of (.cons rfl .nil) .nil)
   intro _
   refine .ret ?_
   have e16 : (szIvs a.arrs (szIvs a.ints left)) = (szEnv a left) := by (simp only [szEnv]; rw [if_neg c0, if_neg c1])
   have hc17 := eq1 (fun z1 => SV.one (.d (.v (.int .i64 (z1))))) e16
   show _ ∧ _
   exact ⟨.inr rfl, .done ⟨_, [], [], _, .one (c := .d (.v (.int .i64 (szEnv a left)))) (hc17) .nil, .cons (Reads.d _).gives .nil, nodupB_ok rfl, by simp, (by simp)⟩⟩
theorem c_toInterval (a : Iv) : Trip Tryz.prog 118 [(true, 2)] (Iv.c a) [(true, 2)] [.v (.int .i64 (a.lo)), .v (.int .i64 (a.hi))] [] := by
 refine Trip.of Tryz.func118 (by decide) (c := _) rfl rfl (shB_ok rfl) (Nat.le_of_ble_eq_true rfl) rfl (AftOk.nil _) ?_
 refine .seq ?_
 refine .reg (X := Nat × Nat) (fun ζ => .of [(1, .one (.ptr [1] (ζ.1) 0)), (2, .one (.ptr [2] (ζ.2) 0))] [([1], (ζ.1, ζ.1, .box [.d (.v (.int .i64 (a.lo))), .d (.v (.int .i64 (a.hi)))])), ([2], (ζ.2, ζ.2, .box [.d (.v (.int .i64 (0))), .d (.v (.int .i64 (0)))]))]) [⟨[0], some 1, [], [[1]]⟩, ⟨[], some 2, [], [[2]]⟩] (fun k1 => ?_) ?_
 ·skip
  refine .box (.no rfl) rfl rfl rfl rfl rfl ?_
  refine .alloc (.no rfl) rfl z122 rfl rfl rfl ?_
  exact .fin (k1, k1 + 1) (.of (.cons rfl (.cons rfl .nil)) (.cons rfl (.cons rfl .nil)))
 rintro ⟨g2, g3⟩
 refine .seq ?_
 refine .reg (X := Nat) (fun ζ => .of [(1, .one (.ptr [1] (g2) 0)), (2, .one (.ptr [2] (g3) 0)), (3, .one (.ptr [3] (ζ) 0))] [([1], (g2, g2, .box [.d (.v (.int .i64 (a.lo))), .d (.v (.int .i64 (a.hi)))])), ([2], (g3, g3, .box [.d (.v (.int .i64 (0))), .d (.v (.int .i64 (0)))])), ([3], (ζ, ζ, .box [.d (.v (.int .i64 (0))), .d (.v (.int .i64 (0)))]))]) [⟨[], some 3, [], [[3]]⟩] (fun k4 => ?_) ?_
 ·skip
  refine .alloc (.no rfl) rfl z122 rfl rfl rfl ?_
  exact .fin k4 (.of (.cons rfl (.cons rfl (.cons rfl .nil))) (.cons rfl (.cons rfl (.cons rfl .nil))))
 intro g5
 refine .seq ?_
 refine .reg (X := Nat) (fun ζ => .of [(1, .one (.ptr [1] (g2) 0)), (2, .one (.ptr [2] (g3) 0)), (3, .one (.ptr [3] (g5) 0))] [([1], (g2, g2, .box [.d (.v (.int .i64 (a.lo))), .d (.v (.int .i64 (a.hi)))])), ([2], (g3, g3, .box [.d (.v (.int .i64 (0))), .d (.v (.int .i64 (0)))])), ([3], (g5, ζ, .box [.d (.v (.int .i64 (a.lo))), .d (.v (.int .i64 (0)))]))]) [⟨[1], some 4, [], []⟩, ⟨[4], some 5, [[1]], []⟩, ⟨[3], some 6, [], []⟩, ⟨[6, 5], none, [[3]], [[3]]⟩] (fun k6 => ?_) ?_
 ·skip
  refine .fieldAddrP (.no rfl) rfl t156 rfl rfl t2 rfl rfl rfl rfl ?_
  refine .load (.no rfl) rfl t2 rfl rfl (.ptr _ _ _ _ _ rfl) rfl rfl rfl rfl ?_
  refine .fieldAddrP (.no rfl) rfl t122 rfl rfl t2 rfl rfl rfl rfl ?_
  refine .store (.no rfl) rfl t2 rfl rfl rfl rfl rfl rfl rfl rfl rfl ?_
  exact .fin (k6 + 1 + 1 + 1) (.of (.cons rfl (.cons rfl (.cons rfl .nil))) (.cons rfl (.cons rfl (.cons rfl .nil))))
 intro g7
 refine .seq ?_
 refine .reg (X := Nat) (fun ζ => .of [(2, .one (.ptr [2] (g3) 0)), (3, .one (.ptr [3] (g5) 0))] [([2], (g3, g3, .box [.d (.v (.int .i64 (0))), .d (.v (.int .i64 (0)))])), ([3], (g5, ζ, .box [.d (.v (.int .i64 (a.lo))), .d (.v (.int .i64 (a.hi)))]))]) [⟨[1], some 7, [], []⟩, ⟨[7], some 8, [[1]], []⟩, ⟨[3], some 9, [], []⟩, ⟨[9, 8], none, [[3]], [[3]]⟩] (fun k8 => ?_) ?_
 ·skip
  refine .fieldAddrP (.no rfl) rfl t156 rfl rfl t2 rfl rfl rfl rfl ?_
  refine .load (.no rfl) rfl t2 rfl rfl (.ptr _ _ _ _ _ rfl) rfl rfl rfl rfl ?_
  refine .fieldAddrP (.no rfl) rfl t122 rfl rfl t2 rfl rfl rfl rfl ?_
  refine .store (.no rfl) rfl t2 rfl rfl rfl rfl rfl rfl rfl rfl rfl ?_
  exact .fin (k8 + 1 + 1 + 1) (.of (.cons rfl (.cons rfl .nil)) (.cons rfl (.cons rfl .nil)))
 intro g9
 refine .seq ?_
 refine .reg (X := Nat) (fun ζ => .of [(2, .one (.ptr [2] (g3) 0))] [([2], (g3, ζ, .box [.d (.v (.int .i64 (a.lo))), .d (.v (.int .i64 (a.hi)))]))]) [⟨[3], some 10, [[3]], []⟩, ⟨[2, 10], none, [[2]], [[2]]⟩] (fun k10 => ?_) ?_
 ·skip
  refine .load (.no rfl) rfl t122 rfl rfl (.ptr _ _ _ _ _ rfl) rfl rfl rfl rfl ?_
  refine .store (.no rfl) rfl t122 rfl rfl rfl rfl rfl rfl rfl rfl rfl ?_
  exact .fin (k10 + 1) (.of (.cons rfl .nil) (.cons rfl .nil))
 intro g11
 refine .ret ?_
 show _ ∧ _
 exact ⟨.inr rfl, .done ⟨_, [], [], _, .cell (cells := [.d (.v (.int .i64 (a.lo))), .d (.v (.int .i64 (a.hi)))]) rfl rfl t122 rfl rfl .nil, .cons (Reads.d _).gives (.cons (Reads.d _).gives .nil), nodupB_ok rfl, by simp, (by simp)⟩⟩
theorem c_toArr (a : Arr) : Trip Tryz.prog 83 [(true, 2)] (Arr.c a) [(true, 2)] [.v (.string (a.name)), .v (.int .i64 (a.size))] [] := by
 refine Trip.of Tryz.func83 (by decide) (c := _) rfl rfl (shB_ok rfl) (Nat.le_of_ble_eq_true rfl) rfl (AftOk.nil _) ?_
 refine .seq ?_
 refine .reg (X := Nat × Nat) (fun ζ => .of [(1, .one (.ptr [1] (ζ.1) 0)), (2, .one (.ptr [2] (ζ.2) 0))] [([1], (ζ.1, ζ.1, .box [.d (.v (.string (a.name))), .d (.v (.int .i64 (a.size)))])), ([2], (ζ.2, ζ.2, .box [.d (.v (.string (.empty))), .d (.v (.int .i64 (0)))]))]) [⟨[0], some 1, [], [[1]]⟩, ⟨[], some 2, [], [[2]]⟩] (fun k1 => ?_) ?_
 ·skip
  refine .box (.no rfl) rfl rfl rfl rfl rfl ?_
  refine .alloc (.no rfl) rfl z119 rfl rfl rfl ?_
  exact .fin (k1, k1 + 1) (.of (.cons rfl (.cons rfl .nil)) (.cons rfl (.cons rfl .nil)))
 rintro ⟨g2, g3⟩
 refine .seq ?_
 refine .reg (X := Nat) (fun ζ => .of [(1, .one (.ptr [1] (g2) 0)), (2, .one (.ptr [2] (g3) 0)), (3, .one (.ptr [3] (ζ) 0))] [([1], (g2, g2, .box [.d (.v (.string (a.name))), .d (.v (.int .i64 (a.size)))])), ([2], (g3, g3, .box [.d (.v (.string (.empty))), .d (.v (.int .i64 (0)))])), ([3], (ζ, ζ, .box [.d (.v (.string (.empty))), .d (.v (.int .i64 (0)))]))]) [⟨[], some 3, [], [[3]]⟩] (fun k4 => ?_) ?_
 ·skip
  refine .alloc (.no rfl) rfl z119 rfl rfl rfl ?_
  exact .fin k4 (.of (.cons rfl (.cons rfl (.cons rfl .nil))) (.cons rfl (.cons rfl (.cons rfl .nil))))
 intro g5
 refine .seq ?_
 refine .reg (X := Nat) (fun ζ => .of [(1, .one (.ptr [1] (g2) 0)), (2, .one (.ptr [2] (g3) 0)), (3, .one (.ptr [3] (g5) 0))] [([1], (g2, g2, .box [.d (.v (.string (a.name))), .d (.v (.int .i64 (a.size)))])), ([2], (g3, g3, .box [.d (.v (.string (.empty))), .d (.v (.int .i64 (0)))])), ([3], (g5, ζ, .box [.d (.v (.string (a.name))), .d (.v (.int .i64 (0)))]))]) [⟨[1], some 4, [], []⟩, ⟨[4], some 5, [[1]], []⟩, ⟨[3], some 6, [], []⟩, ⟨[6, 5], none, [[3]], [[3]]⟩] (fun k6 => ?_) ?_
 ·skip
  refine .fieldAddrP (.no rfl) rfl t115 rfl rfl t9 rfl rfl rfl rfl ?_
  refine .load (.no rfl) rfl t9 rfl rfl (.ptr _ _ _ _ _ rfl) rfl rfl rfl rfl ?_
  refine .fieldAddrP (.no rfl) rfl t119 rfl rfl t9 rfl rfl rfl rfl ?_
  refine .store (.no rfl) rfl t9 rfl rfl rfl rfl rfl rfl rfl rfl rfl ?_
  exact .fin (k6 + 1 + 1 + 1) (.of (.cons rfl (.cons rfl (.cons rfl .nil))) (.cons rfl (.cons rfl (.cons rfl .nil))))
 intro g7
 refine .seq ?_
 refine .reg (X := Nat) (fun ζ => .of [(2, .one (.ptr [2] (g3) 0)), (3, .one (.ptr [3] (g5) 0))] [([2], (g3, g3, .box [.d (.v (.string (.empty))), .d (.v (.int .i64 (0)))])), ([3], (g5, ζ, .box [.d (.v (.string (a.name))), .d (.v (.int .i64 (a.size)))]))]) [⟨[1], some 7, [], []⟩, ⟨[7], some 8, [[1]], []⟩, ⟨[3], some 9, [], []⟩, ⟨[9, 8], none, [[3]], [[3]]⟩] (fun k8 => ?_) ?_
 ·skip
  refine .fieldAddrP (.no rfl) rfl t115 rfl rfl t2 rfl rfl rfl rfl ?_
  refine .load (.no rfl) rfl t2 rfl rfl (.ptr _ _ _ _ _ rfl) rfl rfl rfl rfl ?_
  refine .fieldAddrP (.no rfl) rfl t119 rfl rfl t2 rfl rfl rfl rfl ?_
  refine .store (.no rfl) rfl t2 rfl rfl rfl rfl rfl rfl rfl rfl rfl ?_
  exact .fin (k8 + 1 + 1 + 1) (.of (.cons rfl (.cons rfl .nil)) (.cons rfl (.cons rfl .nil)))
 intro g9
 refine .seq ?_
 refine .reg (X := Nat) (fun ζ => .of [(2, .one (.ptr [2] (g3) 0))] [([2], (g3, ζ, .box [.d (.v (.string (a.name))), .d (.v (.int .i64 (a.size)))]))]) [⟨[3], some 10, [[3]], []⟩, ⟨[2, 10], none, [[2]], [[2]]⟩] (fun k10 => ?_) ?_
 ·skip
  refine .load (.no rfl) rfl t119 rfl rfl (.ptr _ _ _ _ _ rfl) rfl rfl rfl rfl ?_
  refine .store (.no rfl) rfl t119 rfl rfl rfl rfl rfl rfl rfl rfl rfl ?_
  exact .fin (k10 + 1) (.of (.cons rfl .nil) (.cons rfl .nil))
 intro g11
 refine .ret ?_
 show _ ∧ _
 exact ⟨.inr rfl, .done ⟨_, [], [], _, .cell (cells := [.d (.v (.string (a.name))), .d (.v (.int .i64 (a.size)))]) rfl rfl t119 rfl rfl .nil, .cons (Reads.d _).gives (.cons (Reads.d _).gives .nil), nodupB_ok rfl, by simp, (by simp)⟩⟩
theorem c_toIntervalS (a : List Iv) (hb : a.length ≤ 1048576) : Trip Tryz.prog 84 [(false, 1)] ([.sl false 156 2 (List.map Iv.c (a))]) [(false, 1)] [.sl true 122 2 (List.map Iv.c (a))] [] := by
 refine Trip.of Tryz.func84 (by decide) (c := _) rfl rfl (shB_ok rfl) (Nat.le_of_ble_eq_true rfl) rfl (AftOk.nil _) ?_
 refine .sat (t := 0) rfl (fun hs1 => ?_)
 have hs1l : a.length ≤ 9223372036854775807 := hs1.maplen
 refine .seq ?_
 refine .reg (X := Unit) (fun ζ => .of [(0, .one (.d (.sl false 156 2 (List.map Iv.c (a)))))] []) [⟨[], some 2, [], []⟩] (fun k2 => ?_) ?_
 ·skip
  refine .assign (.no rfl) rfl rfl rfl rfl ?_
  exact .fin () (.of (.cons rfl .nil) .nil)
 intro _
 refine .seq ?_
 refine .reg (X := Nat) (fun ζ => .of [(0, .one (.d (.sl false 156 2 (List.map Iv.c (a))))), (3, .one (.ref [7] (ζ)))] [([7], (ζ, ζ, .row 122 2 (List.map Iv.c (List.replicate a.length (Iv.mk 0 0)))))]) [⟨[0], some 5, [], []⟩, ⟨[5], some 6, [], []⟩, ⟨[6, 6], some 7, [], [[7]]⟩, ⟨[7], some 3, [], []⟩] (fun k3 => ?_) ?_
 ·skip
  refine .move (.no rfl) rfl rfl rfl rfl ?_
  refine .len (.no rfl) rfl (z := (a.length : Int)) t67 rfl rfl rfl (.d _ _) (map_len _ _) rfl ?_
  refine .makeSlice (.no rfl) rfl (n0 := a.length) (els := List.map Iv.c (List.replicate a.length (Iv.mk 0 0))) t75 rfl z122 rfl rfl rfl rfl rfl (by (simp [i122]; omega)) (by omega) (rep_map _ _ _ rfl) rfl ?_
  refine .assign (.no rfl) rfl rfl rfl rfl ?_
  exact .fin (k3 + 1 + 1) (.of (.cons rfl (.cons rfl .nil)) (.cons rfl .nil))
 intro g4
 refine .seq ?_
 refine .seq ?_
 refine .reg (X := Unit) (fun ζ => .of [(0, .one (.d (.sl false 156 2 (List.map Iv.c (a))))), (3, .one (.ref [7] (g4))), (4, .one (.d (.v (.int .i64 (0)))))] [([7], (g4, g4, .row 122 2 (List.map Iv.c (List.replicate a.length (Iv.mk 0 0)))))]) [⟨[], some 4, [], []⟩] (fun k5 => ?_) ?_
 ·skip
  refine .assign (.no rfl) rfl rfl rfl rfl ?_
  exact .fin () (.of (.cons rfl (.cons rfl (.cons rfl .nil))) (.cons rfl .nil))
 intro _
 refine .block ?_
 refine .loop (X := Nat × Nat × Nat) (fun ζ => .of [(0, .one (.d (.sl false 156 2 (List.map Iv.c (a))))), (3, .one (.ref [7] (ζ.2.1))), (4, .one (.d (.v (.int .i64 ((ζ.1 : Int))))))] [([7], (ζ.2.1, ζ.2.2, .row 122 2 (List.map Iv.c (fillTo a (Iv.mk 0 0) ζ.1))))]) (fun ζ => ζ.1 ≤ a.length) (fun ζ => a.length - ζ.1) ?_ ?_
 ·skip
  exact .here (0, g4, g4) (.of (.cons rfl (.cons rfl (.cons (svI (show (0) = ((0 : Int)) by first | rfl | omega | exact wrap_le (by omega) (by omega) | (rw [wrap_le (by omega) (by omega)]; omega))) .nil))) (.cons (rowE (show List.map Iv.c (List.replicate a.length (Iv.mk 0 0)) = List.map Iv.c (fillTo a (Iv.mk 0 0) 0) by first | rfl | (rw [fillTo_zero]) | (rw [fillTo_step _ _ _ (by omega) rfl]))) .nil)) (show 0 ≤ a.length by omega)
 ·rintro ⟨j, q6, q7⟩ hI
  have hI : j ≤ a.length := hI
  refine .seq ?_
  refine .seq ?_
  refine .reg (X := Unit) (fun ζ => .of [(0, .one (.d (.sl false 156 2 (List.map Iv.c (a))))), (3, .one (.ref [7] (q6))), (4, .one (.d (.v (.int .i64 ((j : Int)))))), (11, .one (.d (.v (.bool (decide ((j : Int) < (a.length : Int)))))))] [([7], (q6, q7, .row 122 2 (List.map Iv.c (fillTo a (Iv.mk 0 0) j))))]) [⟨[4], some 8, [], []⟩, ⟨[0], some 9, [], []⟩, ⟨[9], some 10, [], []⟩, ⟨[8, 10], some 11, [], []⟩] (fun k8 => ?_) ?_
  ·skip
   refine .move (.no rfl) rfl rfl rfl rfl ?_
   refine .move (.no rfl) rfl rfl rfl rfl ?_
   refine .len (.no rfl) rfl (z := (a.length : Int)) t67 rfl rfl rfl (.d _ _) (map_len _ _) rfl ?_
   refine .bin (.no rfl) rfl rfl rfl rfl rfl rfl ?_
   exact .fin () (.of (.cons rfl (.cons rfl (.cons rfl (.cons rfl .nil)))) (.cons rfl .nil))
  intro _
  refine .cond (t := decide ((j : Int) < (a.length : Int))) rfl (fun c0 => ?_) (fun c0 => ?_)
  ·have c0 := of_decide_eq_true c0
   refine .skip ?_
   refine .seq ?_
   refine .block ?_
   refine .reg (X := Nat) (fun ζ => .of [(0, .one (.d (.sl false 156 2 (List.map Iv.c (a))))), (3, .one (.ref [7] (q6))), (4, .one (.d (.v (.int .i64 ((j : Int))))))] [([7], (q6, ζ, .row 122 2 (List.map Iv.c ((fillTo a (Iv.mk 0 0) j).set j (a.getD j default)))))]) [⟨[3], some 14, [], []⟩, ⟨[4], some 15, [], []⟩, ⟨[0], some 16, [], []⟩, ⟨[4], some 17, [], []⟩, ⟨[16, 17], some 18, [], []⟩, ⟨[18], some 19, [], []⟩, ⟨[19], some 20, [], []⟩, ⟨[14, 15], some 21, [[7]], []⟩, ⟨[21, 20], none, [[7]], [[7]]⟩] (fun k9 => ?_) ?_
   ·skip
    refine .move (.no rfl) rfl rfl rfl rfl ?_
    refine .move (.no rfl) rfl rfl rfl rfl ?_
    refine .move (.no rfl) rfl rfl rfl rfl ?_
    refine .move (.no rfl) rfl rfl rfl rfl ?_
    refine .indexAddr (.no rfl) rfl (j) t67 rfl t156 rfl rfl rfl (.d _ _) rfl rfl rfl (map_get (by first | omega | (rw [fillTo_len]; omega))) rfl rfl ?_
    refine .load (.no rfl) rfl t156 rfl rfl (.d _) rfl rfl rfl rfl ?_
    refine .call (.no rfl) rfl [] [] (c_toInterval (a.getD j default)) rfl rfl rfl rfl rfl (.cons (Reads.d _).gives (.cons (Reads.d _).gives .nil)) rfl rfl (fun h => absurd rfl h) (.own [20, 0] (.own [20, 1] .nil)) (.nil) rfl rfl rfl (by simp) rfl rfl rfl ?_
    refine .indexAddr (.no rfl) rfl (j) t75 rfl t122 rfl rfl rfl (.ref _ _ _ _ _ rfl) rfl rfl rfl (map_get (by first | omega | (rw [fillTo_len]; omega))) rfl rfl ?_
    refine .storeE (.no rfl) rfl (els' := List.map Iv.c ((fillTo a (Iv.mk 0 0) j).set j (a.getD j default))) t122 rfl rfl rfl rfl (map_get (by first | omega | (rw [fillTo_len]; omega))) rfl rfl (.cons _ _ _ _ _ _ (.d _) (.cons _ _ _ _ _ _ (.d _) .nil)) rfl (Nat.le_of_ble_eq_true rfl) (set_map _ _ _ (a.getD j default) _ rfl) rfl rfl ?_
    exact .fin (k9 + 1 + 1 + 1 + 1 + 1 + 1 + 1 + 1) (.of (.cons rfl (.cons rfl (.cons rfl .nil))) (.cons rfl .nil))
   intro g10
   refine .reg (X := Unit) (fun ζ => .of [(0, .one (.d (.sl false 156 2 (List.map Iv.c (a))))), (3, .one (.ref [7] (q6))), (4, .one (.d (.v (.int .i64 (IntKind.wrap .i64 ((j : Int) + 1))))))] [([7], (q6, g10, .row 122 2 (List.map Iv.c ((fillTo a (Iv.mk 0 0) j).set j (a.getD j default)))))]) [⟨[4], some 12, [], []⟩, ⟨[12], some 13, [], []⟩, ⟨[13], some 4, [], []⟩] (fun k11 => ?_) ?_
   ·skip
    refine .move (.no rfl) rfl rfl rfl rfl ?_
    refine .bin (.no rfl) rfl rfl rfl rfl rfl rfl ?_
    refine .assign (.no rfl) rfl rfl rfl rfl ?_
    exact .fin () (.of (.cons rfl (.cons rfl (.cons rfl .nil))) (.cons rfl .nil))
   intro _
   exact .here ((j + 1), q6, g10) (.of (.cons rfl (.cons rfl (.cons (svI (show (IntKind.wrap .i64 ((j : Int) + 1)) = (((j + 1) : Int)) by first | rfl | omega | exact wrap_le (by omega) (by omega) | (rw [wrap_le (by omega) (by omega)]; omega))) .nil))) (.cons (rowE (show List.map Iv.c ((fillTo a (Iv.mk 0 0) j).set j (a.getD j default)) = List.map Iv.c (fillTo a (Iv.mk 0 0) (j + 1)) by first | rfl | (rw [fillTo_zero]) | (rw [fillTo_step _ _ _ (by omega) rfl]))) .nil)) ⟨(show (j + 1) ≤ a.length by omega), (show a.length - (j + 1) < a.length - j by omega)⟩
  ·have c0 := of_decide_eq_false c0
   refine .exit ?_
   refine .seq ?_
   refine .reg (X := Unit) (fun ζ => .of [(2, .one (.ref [7] (q6)))] [([7], (q6, q7, .row 122 2 (List.map Iv.c (fillTo a (Iv.mk 0 0) j))))]) [⟨[3], some 22, [], []⟩, ⟨[22], some 2, [], []⟩] (fun k12 => ?_) ?_
   ·skip
    refine .move (.no rfl) rfl rfl rfl rfl ?_
    refine .assign (.no rfl) rfl rfl rfl rfl ?_
    exact .fin () (.of (.cons rfl .nil) (.cons rfl .nil))
   intro _
   refine .ret ?_
   have e13 : (fillTo a (Iv.mk 0 0) j) = (a) := by (exact fillTo_all _ _ (by omega))
   show _ ∧ _
   exact ⟨.inr rfl, .done ⟨_, [], [([7], (q6, q7, .row 122 2 (List.map Iv.c (a))))], _, .one rfl .nil, .cons (.ref (.head _)) .nil, nodupB_ok rfl, by simp, (AllH.get (.cons (rowE (congrArg (List.map Iv.c) e13)) .nil))⟩⟩
theorem c_toStringS (a : List ByteArray) (hb : a.length ≤ 1048576) : Trip Tryz.prog 43 [(false, 1)] ([.sl false 9 1 (List.map strc (a))]) [(false, 1)] [.sl true 9 1 (List.map strc (a))] [] := by
 refine Trip.of Tryz.func43 (by decide) (c := _) rfl rfl (shB_ok rfl) (Nat.le_of_ble_eq_true rfl) rfl (AftOk.nil _) ?_
 refine .sat (t := 0) rfl (fun hs1 => ?_)
 have hs1l : a.length ≤ 9223372036854775807 := hs1.maplen
 refine .seq ?_
 refine .reg (X := Unit) (fun ζ => .of [(0, .one (.d (.sl false 9 1 (List.map strc (a)))))] []) [⟨[], some 2, [], []⟩] (fun k2 => ?_) ?_
 ·skip
  refine .assign (.no rfl) rfl rfl rfl rfl ?_
  exact .fin () (.of (.cons rfl .nil) .nil)
 intro _
 refine .seq ?_
 refine .reg (X := Nat) (fun ζ => .of [(0, .one (.d (.sl false 9 1 (List.map strc (a))))), (3, .one (.ref [7] (ζ)))] [([7], (ζ, ζ, .row 9 1 (List.map strc (List.replicate a.length .empty))))]) [⟨[0], some 5, [], []⟩, ⟨[5], some 6, [], []⟩, ⟨[6, 6], some 7, [], [[7]]⟩, ⟨[7], some 3, [], []⟩] (fun k3 => ?_) ?_
 ·skip
  refine .move (.no rfl) rfl rfl rfl rfl ?_
  refine .len (.no rfl) rfl (z := (a.length : Int)) t22 rfl rfl rfl (.d _ _) (map_len _ _) rfl ?_
  refine .makeSlice (.no rfl) rfl (n0 := a.length) (els := List.map strc (List.replicate a.length .empty)) t22 rfl z9 rfl rfl rfl rfl rfl (by (simp [i9]; omega)) (by omega) (rep_map _ _ _ rfl) rfl ?_
  refine .assign (.no rfl) rfl rfl rfl rfl ?_
  exact .fin (k3 + 1 + 1) (.of (.cons rfl (.cons rfl .nil)) (.cons rfl .nil))
 intro g4
 refine .seq ?_
 refine .seq ?_
 refine .reg (X := Unit) (fun ζ => .of [(0, .one (.d (.sl false 9 1 (List.map strc (a))))), (3, .one (.ref [7] (g4))), (4, .one (.d (.v (.int .i64 (0)))))] [([7], (g4, g4, .row 9 1 (List.map strc (List.replicate a.length .empty))))]) [⟨[], some 4, [], []⟩] (fun k5 => ?_) ?_
 ·skip
  refine .assign (.no rfl) rfl rfl rfl rfl ?_
  exact .fin () (.of (.cons rfl (.cons rfl (.cons rfl .nil))) (.cons rfl .nil))
 intro _
 refine .block ?_
 refine .loop (X := Nat × Nat × Nat) (fun ζ => .of [(0, .one (.d (.sl false 9 1 (List.map strc (a))))), (3, .one (.ref [7] (ζ.2.1))), (4, .one (.d (.v (.int .i64 ((ζ.1 : Int))))))] [([7], (ζ.2.1, ζ.2.2, .row 9 1 (List.map strc (fillTo a (.empty) ζ.1))))]) (fun ζ => ζ.1 ≤ a.length) (fun ζ => a.length - ζ.1) ?_ ?_
 ·skip
  exact .here (0, g4, g4) (.of (.cons rfl (.cons rfl (.cons (svI (show (0) = ((0 : Int)) by first | rfl | omega | exact wrap_le (by omega) (by omega) | (rw [wrap_le (by omega) (by omega)]; omega))) .nil))) (.cons (rowE (show List.map strc (List.replicate a.length .empty) = List.map strc (fillTo a (.empty) 0) by first | rfl | (rw [fillTo_zero]) | (rw [fillTo_step _ _ _ (by omega) rfl]))) .nil)) (show 0 ≤ a.length by omega)
 ·rintro ⟨j, q6, q7⟩ hI
  have hI : j ≤ a.length := hI
  refine .seq ?_
  refine .seq ?_
  refine .reg (X := Unit) (fun ζ => .of [(0, .one (.d (.sl false 9 1 (List.map strc (a))))), (3, .one (.ref [7] (q6))), (4, .one (.d (.v (.int .i64 ((j : Int)))))), (11, .one (.d (.v (.bool (decide ((j : Int) < (a.length : Int)))))))] [([7], (q6, q7, .row 9 1 (List.map strc (fillTo a (.empty) j))))]) [⟨[4], some 8, [], []⟩, ⟨[0], some 9, [], []⟩, ⟨[9], some 10, [], []⟩, ⟨[8, 10], some 11, [], []⟩] (fun k8 => ?_) ?_
  ·skip
   refine .move (.no rfl) rfl rfl rfl rfl ?_
   refine .move (.no rfl) rfl rfl rfl rfl ?_
   refine .len (.no rfl) rfl (z := (a.length : Int)) t22 rfl rfl rfl (.d _ _) (map_len _ _) rfl ?_
   refine .bin (.no rfl) rfl rfl rfl rfl rfl rfl ?_
   exact .fin () (.of (.cons rfl (.cons rfl (.cons rfl (.cons rfl .nil)))) (.cons rfl .nil))
  intro _
  refine .cond (t := decide ((j : Int) < (a.length : Int))) rfl (fun c0 => ?_) (fun c0 => ?_)
  ·have c0 := of_decide_eq_true c0
   refine .skip ?_
   refine .seq ?_
   refine .block ?_
   refine .reg (X := Nat) (fun ζ => .of [(0, .one (.d (.sl false 9 1 (List.map strc (a))))), (3, .one (.ref [7] (q6))), (4, .one (.d (.v (.int .i64 ((j : Int))))))] [([7], (q6, ζ, .row 9 1 (List.map strc ((fillTo a (.empty) j).set j (a.getD j default)))))]) [⟨[3], some 14, [], []⟩, ⟨[4], some 15, [], []⟩, ⟨[0], some 16, [], []⟩, ⟨[4], some 17, [], []⟩, ⟨[16, 17], some 18, [], []⟩, ⟨[18], some 19, [], []⟩, ⟨[14, 15], some 20, [[7]], []⟩, ⟨[20, 19], none, [[7]], [[7]]⟩] (fun k9 => ?_) ?_
   ·skip
    refine .move (.no rfl) rfl rfl rfl rfl ?_
    refine .move (.no rfl) rfl rfl rfl rfl ?_
    refine .move (.no rfl) rfl rfl rfl rfl ?_
    refine .move (.no rfl) rfl rfl rfl rfl ?_
    refine .indexAddr (.no rfl) rfl (j) t22 rfl t9 rfl rfl rfl (.d _ _) rfl rfl rfl (map_get (by first | omega | (rw [fillTo_len]; omega))) rfl rfl ?_
    refine .load (.no rfl) rfl t9 rfl rfl (.d _) rfl rfl rfl rfl ?_
    refine .indexAddr (.no rfl) rfl (j) t22 rfl t9 rfl rfl rfl (.ref _ _ _ _ _ rfl) rfl rfl rfl (map_get (by first | omega | (rw [fillTo_len]; omega))) rfl rfl ?_
    refine .storeE (.no rfl) rfl (els' := List.map strc ((fillTo a (.empty) j).set j (a.getD j default))) t9 rfl rfl rfl rfl (map_get (by first | omega | (rw [fillTo_len]; omega))) rfl rfl (.cons _ _ _ _ _ _ (.d _) .nil) rfl (Nat.le_of_ble_eq_true rfl) (set_map _ _ _ (a.getD j default) _ rfl) rfl rfl ?_
    exact .fin (k9 + 1 + 1 + 1 + 1 + 1 + 1 + 1) (.of (.cons rfl (.cons rfl (.cons rfl .nil))) (.cons rfl .nil))
   intro g10
   refine .reg (X := Unit) (fun ζ => .of [(0, .one (.d (.sl false 9 1 (List.map strc (a))))), (3, .one (.ref [7] (q6))), (4, .one (.d (.v (.int .i64 (IntKind.wrap .i64 ((j : Int) + 1))))))] [([7], (q6, g10, .row 9 1 (List.map strc ((fillTo a (.empty) j).set j (a.getD j default)))))]) [⟨[4], some 12, [], []⟩, ⟨[12], some 13, [], []⟩, ⟨[13], some 4, [], []⟩] (fun k11 => ?_) ?_
   ·skip
    refine .move (.no rfl) rfl rfl rfl rfl ?_
    refine .bin (.no rfl) rfl rfl rfl rfl rfl rfl ?_
    refine .assign (.no rfl) rfl rfl rfl rfl ?_
    exact .fin () (.of (.cons rfl (.cons rfl (.cons rfl .nil))) (.cons rfl .nil))
   intro _
   exact .here ((j + 1), q6, g10) (.of (.cons rfl (.cons rfl (.cons (svI (show (IntKind.wrap .i64 ((j : Int) + 1)) = (((j + 1) : Int)) by first | rfl | omega | exact wrap_le (by omega) (by omega) | (rw [wrap_le (by omega) (by omega)]; omega))) .nil))) (.cons (rowE (show List.map strc ((fillTo a (.empty) j).set j (a.getD j default)) = List.map strc (fillTo a (.empty) (j + 1)) by first | rfl | (rw [fillTo_zero]) | (rw [fillTo_step _ _ _ (by omega) rfl]))) .nil)) ⟨(show (j + 1) ≤ a.length by omega), (show a.length - (j + 1) < a.length - j by omega)⟩
  ·have c0 := of_decide_eq_false c0
   refine .exit ?_
   refine .seq ?_
   refine .reg (X := Unit) (fun ζ => .of [(2, .one (.ref [7] (q6)))] [([7], (q6, q7, .row 9 1 (List.map strc (fillTo a (.empty) j))))]) [⟨[3], some 21, [], []⟩, ⟨[21], some 2, [], []⟩] (fun k12 => ?_) ?_
   ·skip
    refine .move (.no rfl) rfl rfl rfl rfl ?_
    refine .assign (.no rfl) rfl rfl rfl rfl ?_
    exact .fin () (.of (.cons rfl .nil) (.cons rfl .nil))
   intro _
   refine .ret ?_
   have e13 : (fillTo a (.empty) j) = (a) := by (exact fillTo_all _ _ (by omega))
   show _ ∧ _
   exact ⟨.inr rfl, .done ⟨_, [], [([7], (q6, q7, .row 9 1 (List.map strc (a))))], _, .one rfl .nil, .cons (.ref (.head _)) .nil, nodupB_ok rfl, by simp, (AllH.get (.cons (rowE (congrArg (List.map strc) e13)) .nil))⟩⟩
theorem c_toArrS (a : List Arr) (hb : a.length ≤ 1048576) : Trip Tryz.prog 44 [(false, 1)] ([.sl false 115 2 (List.map Arr.c (a))]) [(false, 1)] [.sl true 119 2 (List.map Arr.c (a))] [] := by
 refine Trip.of Tryz.func44 (by decide) (c := _) rfl rfl (shB_ok rfl) (Nat.le_of_ble_eq_true rfl) rfl (AftOk.nil _) ?_
 refine .sat (t := 0) rfl (fun hs1 => ?_)
 have hs1l : a.length ≤ 9223372036854775807 := hs1.maplen
 refine .seq ?_
 refine .reg (X := Unit) (fun ζ => .of [(0, .one (.d (.sl false 115 2 (List.map Arr.c (a)))))] []) [⟨[], some 2, [], []⟩] (fun k2 => ?_) ?_
 ·skip
  refine .assign (.no rfl) rfl rfl rfl rfl ?_
  exact .fin () (.of (.cons rfl .nil) .nil)
 intro _
 refine .seq ?_
 refine .reg (X := Nat) (fun ζ => .of [(0, .one (.d (.sl false 115 2 (List.map Arr.c (a))))), (3, .one (.ref [7] (ζ)))] [([7], (ζ, ζ, .row 119 2 (List.map Arr.c (List.replicate a.length (Arr.mk .empty 0)))))]) [⟨[0], some 5, [], []⟩, ⟨[5], some 6, [], []⟩, ⟨[6, 6], some 7, [], [[7]]⟩, ⟨[7], some 3, [], []⟩] (fun k3 => ?_) ?_
 ·skip
  refine .move (.no rfl) rfl rfl rfl rfl ?_
  refine .len (.no rfl) rfl (z := (a.length : Int)) t23 rfl rfl rfl (.d _ _) (map_len _ _) rfl ?_
  refine .makeSlice (.no rfl) rfl (n0 := a.length) (els := List.map Arr.c (List.replicate a.length (Arr.mk .empty 0))) t36 rfl z119 rfl rfl rfl rfl rfl (by (simp [i119]; omega)) (by omega) (rep_map _ _ _ rfl) rfl ?_
  refine .assign (.no rfl) rfl rfl rfl rfl ?_
  exact .fin (k3 + 1 + 1) (.of (.cons rfl (.cons rfl .nil)) (.cons rfl .nil))
 intro g4
 refine .seq ?_
 refine .seq ?_
 refine .reg (X := Unit) (fun ζ => .of [(0, .one (.d (.sl false 115 2 (List.map Arr.c (a))))), (3, .one (.ref [7] (g4))), (4, .one (.d (.v (.int .i64 (0)))))] [([7], (g4, g4, .row 119 2 (List.map Arr.c (List.replicate a.length (Arr.mk .empty 0)))))]) [⟨[], some 4, [], []⟩] (fun k5 => ?_) ?_
 ·skip
  refine .assign (.no rfl) rfl rfl rfl rfl ?_
  exact .fin () (.of (.cons rfl (.cons rfl (.cons rfl .nil))) (.cons rfl .nil))
 intro _
 refine .block ?_
 refine .loop (X := Nat × Nat × Nat) (fun ζ => .of [(0, .one (.d (.sl false 115 2 (List.map Arr.c (a))))), (3, .one (.ref [7] (ζ.2.1))), (4, .one (.d (.v (.int .i64 ((ζ.1 : Int))))))] [([7], (ζ.2.1, ζ.2.2, .row 119 2 (List.map Arr.c (fillTo a (Arr.mk .empty 0) ζ.1))))]) (fun ζ => ζ.1 ≤ a.length) (fun ζ => a.length - ζ.1) ?_ ?_
 ·skip
  exact .here (0, g4, g4) (.of (.cons rfl (.cons rfl (.cons (svI (show (0) = ((0 : Int)) by first | rfl | omega | exact wrap_le (by omega) (by omega) | (rw [wrap_le (by omega) (by omega)]; omega))) .nil))) (.cons (rowE (show List.map Arr.c (List.replicate a.length (Arr.mk .empty 0)) = List.map Arr.c (fillTo a (Arr.mk .empty 0) 0) by first | rfl | (rw [fillTo_zero]) | (rw [fillTo_step _ _ _ (by omega) rfl]))) .nil)) (show 0 ≤ a.length by omega)
 ·rintro ⟨j, q6, q7⟩ hI
  have hI : j ≤ a.length := hI
  refine .seq ?_
  refine .seq ?_
  refine .reg (X := Unit) (fun ζ => .of [(0, .one (.d (.sl false 115 2 (List.map Arr.c (a))))), (3, .one (.ref [7] (q6))), (4, .one (.d (.v (.int .i64 ((j : Int)))))), (11, .one (.d (.v (.bool (decide ((j : Int) < (a.length : Int)))))))] [([7], (q6, q7, .row 119 2 (List.map Arr.c (fillTo a (Arr.mk .empty 0) j))))]) [⟨[4], some 8, [], []⟩, ⟨[0], some 9, [], []⟩, ⟨[9], some 10, [], []⟩, ⟨[8, 10], some 11, [], []⟩] (fun k8 => ?_) ?_
  ·skip
   refine .move (.no rfl) rfl rfl rfl rfl ?_
   refine .move (.no rfl) rfl rfl rfl rfl ?_
   refine .len (.no rfl) rfl (z := (a.length : Int)) t23 rfl rfl rfl (.d _ _) (map_len _ _) rfl ?_
   refine .bin (.no rfl) rfl rfl rfl rfl rfl rfl ?_
   exact .fin () (.of (.cons rfl (.cons rfl (.cons rfl (.cons rfl .nil)))) (.cons rfl .nil))
  intro _
  refine .cond (t := decide ((j : Int) < (a.length : Int))) rfl (fun c0 => ?_) (fun c0 => ?_)
  ·have c0 := of_decide_eq_true c0
   refine .skip ?_
   refine .seq ?_
   refine .block ?_
   refine .reg (X := Nat) (fun ζ => .of [(0, .one (.d (.sl false 115 2 (List.map Arr.c (a))))), (3, .one (.ref [7] (q6))), (4, .one (.d (.v (.int .i64 ((j : Int))))))] [([7], (q6, ζ, .row 119 2 (List.map Arr.c ((fillTo a (Arr.mk .empty 0) j).set j (a.getD j default)))))]) [⟨[3], some 14, [], []⟩, ⟨[4], some 15, [], []⟩, ⟨[0], some 16, [], []⟩, ⟨[4], some 17, [], []⟩, ⟨[16, 17], some 18, [], []⟩, ⟨[18], some 19, [], []⟩, ⟨[19], some 20, [], []⟩, ⟨[14, 15], some 21, [[7]], []⟩, ⟨[21, 20], none, [[7]], [[7]]⟩] (fun k9 => ?_) ?_
   ·skip
    refine .move (.no rfl) rfl rfl rfl rfl ?_
    refine .move (.no rfl) rfl rfl rfl rfl ?_
    refine .move (.no rfl) rfl rfl rfl rfl ?_
    refine .move (.no rfl) rfl rfl rfl rfl ?_
    refine .indexAddr (.no rfl) rfl (j) t23 rfl t115 rfl rfl rfl (.d _ _) rfl rfl rfl (map_get (by first | omega | (rw [fillTo_len]; omega))) rfl rfl ?_
    refine .load (.no rfl) rfl t115 rfl rfl (.d _) rfl rfl rfl rfl ?_
    refine .call (.no rfl) rfl [] [] (c_toArr (a.getD j default)) rfl rfl rfl rfl rfl (.cons (Reads.d _).gives (.cons (Reads.d _).gives .nil)) rfl rfl (fun h => absurd rfl h) (.own [20, 0] (.own [20, 1] .nil)) (.nil) rfl rfl rfl (by simp) rfl rfl rfl ?_
    refine .indexAddr (.no rfl) rfl (j) t36 rfl t119 rfl rfl rfl (.ref _ _ _ _ _ rfl) rfl rfl rfl (map_get (by first | omega | (rw [fillTo_len]; omega))) rfl rfl ?_
    refine .storeE (.no rfl) rfl (els' := List.map Arr.c ((fillTo a (Arr.mk .empty 0) j).set j (a.getD j default))) t119 rfl rfl rfl rfl (map_get (by first | omega | (rw [fillTo_len]; omega))) rfl rfl (.cons _ _ _ _ _ _ (.d _) (.cons _ _ _ _ _ _ (.d _) .nil)) rfl (Nat.le_of_ble_eq_true rfl) (set_map _ _ _ (a.getD j default) _ rfl) rfl rfl ?_
    exact .fin (k9 + 1 + 1 + 1 + 1 + 1 + 1 + 1 + 1) (.of (.cons rfl (.cons rfl (.cons rfl .nil))) (.cons rfl .nil))
   intro g10
   refine .reg (X := Unit) (fun ζ => .of [(0, .one (.d (.sl false 115 2 (List.map Arr.c (a))))), (3, .one (.ref [7] (q6))), (4, .one (.d (.v (.int .i64 (IntKind.wrap .i64 ((j : Int) + 1))))))] [([7], (q6, g10, .row 119 2 (List.map Arr.c ((fillTo a (Arr.mk .empty 0) j).set j (a.getD j default)))))]) [⟨[4], some 12, [], []⟩, ⟨[12], some 13, [], []⟩, ⟨[13], some 4, [], []⟩] (fun k11 => ?_) ?_
   ·skip
    refine .move (.no rfl) rfl rfl rfl rfl ?_
    refine .bin (.no rfl) rfl rfl rfl rfl rfl rfl ?_
    refine .assign (.no rfl) rfl rfl rfl rfl ?_
    exact .fin () (.of (.cons rfl (.cons rfl (.cons rfl .nil))) (.cons rfl .nil))
   intro _
   exact .here ((j + 1), q6, g10) (.of (.cons rfl (.cons rfl (.cons (svI (show (IntKind.wrap .i64 ((j : Int) + 1)) = (((j + 1) : Int)) by first | rfl | omega | exact wrap_le (by omega) (by omega) | (rw [wrap_le (by omega) (by omega)]; omega))) .nil))) (.cons (rowE (show List.map Arr.c ((fillTo a (Arr.mk .empty 0) j).set j (a.getD j default)) = List.map Arr.c (fillTo a (Arr.mk .empty 0) (j + 1)) by first | rfl | (rw [fillTo_zero]) | (rw [fillTo_step _ _ _ (by omega) rfl]))) .nil)) ⟨(show (j + 1) ≤ a.length by omega), (show a.length - (j + 1) < a.length - j by omega)⟩
  ·have c0 := of_decide_eq_false c0
   refine .exit ?_
   refine .seq ?_
   refine .reg (X := Unit) (fun ζ => .of [(2, .one (.ref [7] (q6)))] [([7], (q6, q7, .row 119 2 (List.map Arr.c (fillTo a (Arr.mk .empty 0) j))))]) [⟨[3], some 22, [], []⟩, ⟨[22], some 2, [], []⟩] (fun k12 => ?_) ?_
   ·skip
    refine .move (.no rfl) rfl rfl rfl rfl ?_
    refine .assign (.no rfl) rfl rfl rfl rfl ?_
    exact .fin () (.of (.cons rfl .nil) (.cons rfl .nil))
   intro _
   refine .ret ?_
   have e13 : (fillTo a (Arr.mk .empty 0) j) = (a) := by (exact fillTo_all _ _ (by omega))
   show _ ∧ _
   exact ⟨.inr rfl, .done ⟨_, [], [([7], (q6, q7, .row 119 2 (List.map Arr.c (a))))], _, .one rfl .nil, .cons (.ref (.head _)) .nil, nodupB_ok rfl, by simp, (AllH.get (.cons (rowE (congrArg (List.map Arr.c) e13)) .nil))⟩⟩
theorem c_toEnv (a : Env) (hb : a.ints.length ≤ 1048576 ∧ a.arrs.length ≤ 1048576) : Trip Tryz.prog 45 [(true, 3)] (Env.c69 a) [(true, 3)] [.v (.bool (a.live)), .sl true 122 2 (List.map Iv.c (a.ints)), .sl true 122 2 (List.map Iv.c (a.arrs))] [] := by
 refine Trip.of Tryz.func45 (by decide) (c := _) rfl rfl (shB_ok rfl) (Nat.le_of_ble_eq_true rfl) rfl (AftOk.nil _) ?_
 refine .satA (t := 0) (i := 1) rfl rfl (fun hs1 => ?_)
 have hs1l : a.ints.length ≤ 9223372036854775807 := hs1.maplen
 refine .satA (t := 0) (i := 2) rfl rfl (fun hs2 => ?_)
 have hs2l : a.arrs.length ≤ 9223372036854775807 := hs2.maplen
 refine .seq ?_
 refine .reg (X := Nat × Nat) (fun ζ => .of [(1, .one (.ptr [1] (ζ.1) 0)), (2, .one (.ptr [2] (ζ.2) 0))] [([1], (ζ.1, ζ.1, .box [.d (.v (.bool (a.live))), .d (.sl false 156 2 (List.map Iv.c (a.ints))), .d (.sl false 156 2 (List.map Iv.c (a.arrs)))])), ([2], (ζ.2, ζ.2, .box [.d (.v (.bool (false))), .d (.v (.slice none 0 0)), .d (.v (.slice none 0 0))]))]) [⟨[0], some 1, [], [[1]]⟩, ⟨[], some 2, [], [[2]]⟩] (fun k3 => ?_) ?_
 ·skip
  refine .box (.no rfl) rfl rfl rfl rfl rfl ?_
  refine .alloc (.no rfl) rfl z77 rfl rfl rfl ?_
  exact .fin (k3, k3 + 1) (.of (.cons rfl (.cons rfl .nil)) (.cons rfl (.cons rfl .nil)))
 rintro ⟨g4, g5⟩
 refine .seq ?_
 refine .reg (X := Nat) (fun ζ => .of [(1, .one (.ptr [1] (g4) 0)), (2, .one (.ptr [2] (g5) 0)), (3, .one (.ptr [3] (ζ) 0))] [([1], (g4, g4, .box [.d (.v (.bool (a.live))), .d (.sl false 156 2 (List.map Iv.c (a.ints))), .d (.sl false 156 2 (List.map Iv.c (a.arrs)))])), ([2], (g5, g5, .box [.d (.v (.bool (false))), .d (.v (.slice none 0 0)), .d (.v (.slice none 0 0))])), ([3], (ζ, ζ, .box [.d (.v (.bool (false))), .d (.v (.slice none 0 0)), .d (.v (.slice none 0 0))]))]) [⟨[], some 3, [], [[3]]⟩] (fun k6 => ?_) ?_
 ·skip
  refine .alloc (.no rfl) rfl z77 rfl rfl rfl ?_
  exact .fin k6 (.of (.cons rfl (.cons rfl (.cons rfl .nil))) (.cons rfl (.cons rfl (.cons rfl .nil))))
 intro g7
 refine .seq ?_
 refine .reg (X := Nat) (fun ζ => .of [(1, .one (.ptr [1] (g4) 0)), (2, .one (.ptr [2] (g5) 0)), (3, .one (.ptr [3] (g7) 0))] [([1], (g4, g4, .box [.d (.v (.bool (a.live))), .d (.sl false 156 2 (List.map Iv.c (a.ints))), .d (.sl false 156 2 (List.map Iv.c (a.arrs)))])), ([2], (g5, g5, .box [.d (.v (.bool (false))), .d (.v (.slice none 0 0)), .d (.v (.slice none 0 0))])), ([3], (g7, ζ, .box [.d (.v (.bool (a.live))), .d (.v (.slice none 0 0)), .d (.v (.slice none 0 0))]))]) [⟨[1], some 4, [], []⟩, ⟨[4], some 5, [[1]], []⟩, ⟨[3], some 6, [], []⟩, ⟨[6, 5], none, [[3]], [[3]]⟩] (fun k8 => ?_) ?_
 ·skip
  refine .fieldAddrP (.no rfl) rfl t69 rfl rfl t4 rfl rfl rfl rfl ?_
  refine .load (.no rfl) rfl t4 rfl rfl (.ptr _ _ _ _ _ rfl) rfl rfl rfl rfl ?_
  refine .fieldAddrP (.no rfl) rfl t77 rfl rfl t4 rfl rfl rfl rfl ?_
  refine .store (.no rfl) rfl t4 rfl rfl rfl rfl rfl rfl rfl rfl rfl ?_
  exact .fin (k8 + 1 + 1 + 1) (.of (.cons rfl (.cons rfl (.cons rfl .nil))) (.cons rfl (.cons rfl (.cons rfl .nil))))
 intro g9
 refine .seq ?_
 refine .reg (X := Nat × Nat) (fun ζ => .of [(1, .one (.ptr [1] (g4) 0)), (2, .one (.ptr [2] (g5) 0)), (3, .one (.ptr [3] (g7) 0))] [([1], (g4, g4, .box [.d (.v (.bool (a.live))), .d (.sl false 156 2 (List.map Iv.c (a.ints))), .d (.sl false 156 2 (List.map Iv.c (a.arrs)))])), ([2], (g5, g5, .box [.d (.v (.bool (false))), .d (.v (.slice none 0 0)), .d (.v (.slice none 0 0))])), ([3], (g7, ζ.1, .box [.d (.v (.bool (a.live))), .ref [9, 0] (ζ.2), .d (.v (.slice none 0 0))])), ([9, 0], (ζ.2, ζ.2, .row 122 2 (List.map Iv.c (a.ints))))]) [⟨[1], some 7, [], []⟩, ⟨[7], some 8, [[1]], []⟩, ⟨[8], some 9, [], [[9, 0]]⟩, ⟨[3], some 10, [], []⟩, ⟨[10, 9], none, [[3]], [[3]]⟩] (fun k10 => ?_) ?_
 ·skip
  refine .fieldAddrP (.no rfl) rfl t69 rfl rfl t67 rfl rfl rfl rfl ?_
  refine .load (.no rfl) rfl t67 rfl rfl (.ptr _ _ _ _ _ rfl) rfl rfl rfl rfl ?_
  refine .call (.no rfl) rfl [] [] (c_toIntervalS a.ints (by omega)) rfl rfl rfl rfl rfl (.cons (Reads.d _).gives .nil) rfl rfl (fun h => absurd rfl h) (.own [9, 0] .nil) (.nil) rfl rfl rfl (by simp) rfl rfl rfl ?_
  refine .fieldAddrP (.no rfl) rfl t77 rfl rfl t75 rfl rfl rfl rfl ?_
  refine .store (.no rfl) rfl t75 rfl rfl rfl rfl rfl rfl rfl rfl rfl ?_
  exact .fin (k10 + 1 + 1 + 1 + 1, k10 + 1 + 1) (.of (.cons rfl (.cons rfl (.cons rfl .nil))) (.cons rfl (.cons rfl (.cons rfl (.cons rfl .nil)))))
 rintro ⟨g11, g12⟩
 refine .seq ?_
 refine .reg (X := Nat × Nat) (fun ζ => .of [(2, .one (.ptr [2] (g5) 0)), (3, .one (.ptr [3] (g7) 0))] [([2], (g5, g5, .box [.d (.v (.bool (false))), .d (.v (.slice none 0 0)), .d (.v (.slice none 0 0))])), ([3], (g7, ζ.1, .box [.d (.v (.bool (a.live))), .ref [9, 0] (g12), .ref [13, 0] (ζ.2)])), ([9, 0], (g12, g12, .row 122 2 (List.map Iv.c (a.ints)))), ([13, 0], (ζ.2, ζ.2, .row 122 2 (List.map Iv.c (a.arrs))))]) [⟨[1], some 11, [], []⟩, ⟨[11], some 12, [[1]], []⟩, ⟨[12], some 13, [], [[13, 0]]⟩, ⟨[3], some 14, [], []⟩, ⟨[14, 13], none, [[3]], [[3]]⟩] (fun k13 => ?_) ?_
 ·skip
  refine .fieldAddrP (.no rfl) rfl t69 rfl rfl t67 rfl rfl rfl rfl ?_
  refine .load (.no rfl) rfl t67 rfl rfl (.ptr _ _ _ _ _ rfl) rfl rfl rfl rfl ?_
  refine .call (.no rfl) rfl [] [] (c_toIntervalS a.arrs (by omega)) rfl rfl rfl rfl rfl (.cons (Reads.d _).gives .nil) rfl rfl (fun h => absurd rfl h) (.own [13, 0] .nil) (.nil) rfl rfl rfl (by simp) rfl rfl rfl ?_
  refine .fieldAddrP (.no rfl) rfl t77 rfl rfl t75 rfl rfl rfl rfl ?_
  refine .store (.no rfl) rfl t75 rfl rfl rfl rfl rfl rfl rfl rfl rfl ?_
  exact .fin (k13 + 1 + 1 + 1 + 1, k13 + 1 + 1) (.of (.cons rfl (.cons rfl .nil)) (.cons rfl (.cons rfl (.cons rfl (.cons rfl .nil)))))
 rintro ⟨g14, g15⟩
 refine .seq ?_
 refine .reg (X := Nat) (fun ζ => .of [(2, .one (.ptr [2] (g5) 0))] [([2], (g5, ζ, .box [.d (.v (.bool (a.live))), .ref [9, 0] (g12), .ref [13, 0] (g15)])), ([9, 0], (g12, g12, .row 122 2 (List.map Iv.c (a.ints)))), ([13, 0], (g15, g15, .row 122 2 (List.map Iv.c (a.arrs))))]) [⟨[3], some 15, [[3]], []⟩, ⟨[2, 15], none, [[2]], [[2]]⟩] (fun k16 => ?_) ?_
 ·skip
  refine .load (.no rfl) rfl t77 rfl rfl (.ptr _ _ _ _ _ rfl) rfl rfl rfl rfl ?_
  refine .store (.no rfl) rfl t77 rfl rfl rfl rfl rfl rfl rfl rfl rfl ?_
  exact .fin (k16 + 1) (.of (.cons rfl .nil) (.cons rfl (.cons rfl (.cons rfl .nil))))
 intro g17
 refine .ret ?_
 show _ ∧ _
 exact ⟨.inr rfl, .done ⟨_, [], [([9, 0], (g12, g12, .row 122 2 (List.map Iv.c (a.ints)))), ([13, 0], (g15, g15, .row 122 2 (List.map Iv.c (a.arrs))))], _, .cell (cells := [.d (.v (.bool (a.live))), .ref [9, 0] (g12), .ref [13, 0] (g15)]) rfl rfl t77 rfl rfl .nil, .cons (Reads.d _).gives (.cons (.ref (.head _)) (.cons (.ref (.tail _ (.head _))) .nil)), nodupB_ok rfl, by simp, (AllH.get (.cons rfl (.cons rfl .nil)))⟩⟩
theorem c_toDecl (a : Decl) (hb : a.vars.length ≤ 1048576 ∧ a.flags.length ≤ 1048576 ∧ a.arrays.length ≤ 1048576) : Trip Tryz.prog 11 [(true, 3)] (Decl.c25 a) [(true, 3)] [.sl true 9 1 (List.map strc (a.vars)), .sl true 9 1 (List.map strc (a.flags)), .sl true 119 2 (List.map Arr.c (a.arrays))] [] := by
 refine Trip.of Tryz.func11 (by decide) (c := _) rfl rfl (shB_ok rfl) (Nat.le_of_ble_eq_true rfl) rfl (AftOk.nil _) ?_
 refine .satA (t := 0) (i := 0) rfl rfl (fun hs1 => ?_)
 have hs1l : a.vars.length ≤ 9223372036854775807 := hs1.maplen
 refine .satA (t := 0) (i := 1) rfl rfl (fun hs2 => ?_)
 have hs2l : a.flags.length ≤ 9223372036854775807 := hs2.maplen
 refine .satA (t := 0) (i := 2) rfl rfl (fun hs3 => ?_)
 have hs3l : a.arrays.length ≤ 9223372036854775807 := hs3.maplen
 refine .seq ?_
 refine .reg (X := Nat × Nat) (fun ζ => .of [(1, .one (.ptr [1] (ζ.1) 0)), (2, .one (.ptr [2] (ζ.2) 0))] [([1], (ζ.1, ζ.1, .box [.d (.sl false 9 1 (List.map strc (a.vars))), .d (.sl false 9 1 (List.map strc (a.flags))), .d (.sl false 115 2 (List.map Arr.c (a.arrays)))])), ([2], (ζ.2, ζ.2, .box [.d (.v (.slice none 0 0)), .d (.v (.slice none 0 0)), .d (.v (.slice none 0 0))]))]) [⟨[0], some 1, [], [[1]]⟩, ⟨[], some 2, [], [[2]]⟩] (fun k4 => ?_) ?_
 ·skip
  refine .box (.no rfl) rfl rfl rfl rfl rfl ?_
  refine .alloc (.no rfl) rfl z38 rfl rfl rfl ?_
  exact .fin (k4, k4 + 1) (.of (.cons rfl (.cons rfl .nil)) (.cons rfl (.cons rfl .nil)))
 rintro ⟨g5, g6⟩
 refine .seq ?_
 refine .reg (X := Nat) (fun ζ => .of [(1, .one (.ptr [1] (g5) 0)), (2, .one (.ptr [2] (g6) 0)), (3, .one (.ptr [3] (ζ) 0))] [([1], (g5, g5, .box [.d (.sl false 9 1 (List.map strc (a.vars))), .d (.sl false 9 1 (List.map strc (a.flags))), .d (.sl false 115 2 (List.map Arr.c (a.arrays)))])), ([2], (g6, g6, .box [.d (.v (.slice none 0 0)), .d (.v (.slice none 0 0)), .d (.v (.slice none 0 0))])), ([3], (ζ, ζ, .box [.d (.v (.slice none 0 0)), .d (.v (.slice none 0 0)), .d (.v (.slice none 0 0))]))]) [⟨[], some 3, [], [[3]]⟩] (fun k7 => ?_) ?_
 ·skip
  refine .alloc (.no rfl) rfl z38 rfl rfl rfl ?_
  exact .fin k7 (.of (.cons rfl (.cons rfl (.cons rfl .nil))) (.cons rfl (.cons rfl (.cons rfl .nil))))
 intro g8
 refine .seq ?_
 refine .reg (X := Nat × Nat) (fun ζ => .of [(1, .one (.ptr [1] (g5) 0)), (2, .one (.ptr [2] (g6) 0)), (3, .one (.ptr [3] (g8) 0))] [([1], (g5, g5, .box [.d (.sl false 9 1 (List.map strc (a.vars))), .d (.sl false 9 1 (List.map strc (a.flags))), .d (.sl false 115 2 (List.map Arr.c (a.arrays)))])), ([2], (g6, g6, .box [.d (.v (.slice none 0 0)), .d (.v (.slice none 0 0)), .d (.v (.slice none 0 0))])), ([3], (g8, ζ.1, .box [.ref [6, 0] (ζ.2), .d (.v (.slice none 0 0)), .d (.v (.slice none 0 0))])), ([6, 0], (ζ.2, ζ.2, .row 9 1 (List.map strc (a.vars))))]) [⟨[1], some 4, [], []⟩, ⟨[4], some 5, [[1]], []⟩, ⟨[5], some 6, [], [[6, 0]]⟩, ⟨[3], some 7, [], []⟩, ⟨[7, 6], none, [[3]], [[3]]⟩] (fun k9 => ?_) ?_
 ·skip
  refine .fieldAddrP (.no rfl) rfl t25 rfl rfl t22 rfl rfl rfl rfl ?_
  refine .load (.no rfl) rfl t22 rfl rfl (.ptr _ _ _ _ _ rfl) rfl rfl rfl rfl ?_
  refine .call (.no rfl) rfl [] [] (c_toStringS a.vars (by omega)) rfl rfl rfl rfl rfl (.cons (Reads.d _).gives .nil) rfl rfl (fun h => absurd rfl h) (.own [6, 0] .nil) (.nil) rfl rfl rfl (by simp) rfl rfl rfl ?_
  refine .fieldAddrP (.no rfl) rfl t38 rfl rfl t22 rfl rfl rfl rfl ?_
  refine .store (.no rfl) rfl t22 rfl rfl rfl rfl rfl rfl rfl rfl rfl ?_
  exact .fin (k9 + 1 + 1 + 1 + 1, k9 + 1 + 1) (.of (.cons rfl (.cons rfl (.cons rfl .nil))) (.cons rfl (.cons rfl (.cons rfl (.cons rfl .nil)))))
 rintro ⟨g10, g11⟩
 refine .seq ?_
 refine .reg (X := Nat × Nat) (fun ζ => .of [(1, .one (.ptr [1] (g5) 0)), (2, .one (.ptr [2] (g6) 0)), (3, .one (.ptr [3] (g8) 0))] [([1], (g5, g5, .box [.d (.sl false 9 1 (List.map strc (a.vars))), .d (.sl false 9 1 (List.map strc (a.flags))), .d (.sl false 115 2 (List.map Arr.c (a.arrays)))])), ([2], (g6, g6, .box [.d (.v (.slice none 0 0)), .d (.v (.slice none 0 0)), .d (.v (.slice none 0 0))])), ([3], (g8, ζ.1, .box [.ref [6, 0] (g11), .ref [10, 0] (ζ.2), .d (.v (.slice none 0 0))])), ([6, 0], (g11, g11, .row 9 1 (List.map strc (a.vars)))), ([10, 0], (ζ.2, ζ.2, .row 9 1 (List.map strc (a.flags))))]) [⟨[1], some 8, [], []⟩, ⟨[8], some 9, [[1]], []⟩, ⟨[9], some 10, [], [[10, 0]]⟩, ⟨[3], some 11, [], []⟩, ⟨[11, 10], none, [[3]], [[3]]⟩] (fun k12 => ?_) ?_
 ·skip
  refine .fieldAddrP (.no rfl) rfl t25 rfl rfl t22 rfl rfl rfl rfl ?_
  refine .load (.no rfl) rfl t22 rfl rfl (.ptr _ _ _ _ _ rfl) rfl rfl rfl rfl ?_
  refine .call (.no rfl) rfl [] [] (c_toStringS a.flags (by omega)) rfl rfl rfl rfl rfl (.cons (Reads.d _).gives .nil) rfl rfl (fun h => absurd rfl h) (.own [10, 0] .nil) (.nil) rfl rfl rfl (by simp) rfl rfl rfl ?_
  refine .fieldAddrP (.no rfl) rfl t38 rfl rfl t22 rfl rfl rfl rfl ?_
  refine .store (.no rfl) rfl t22 rfl rfl rfl rfl rfl rfl rfl rfl rfl ?_
  exact .fin (k12 + 1 + 1 + 1 + 1, k12 + 1 + 1) (.of (.cons rfl (.cons rfl (.cons rfl .nil))) (.cons rfl (.cons rfl (.cons rfl (.cons rfl (.cons rfl .nil))))))
 rintro ⟨g13, g14⟩
 refine .seq ?_
 refine .reg (X := Nat × Nat) (fun ζ => .of [(2, .one (.ptr [2] (g6) 0)), (3, .one (.ptr [3] (g8) 0))] [([2], (g6, g6, .box [.d (.v (.slice none 0 0)), .d (.v (.slice none 0 0)), .d (.v (.slice none 0 0))])), ([3], (g8, ζ.1, .box [.ref [6, 0] (g11), .ref [10, 0] (g14), .ref [14, 0] (ζ.2)])), ([6, 0], (g11, g11, .row 9 1 (List.map strc (a.vars)))), ([10, 0], (g14, g14, .row 9 1 (List.map strc (a.flags)))), ([14, 0], (ζ.2, ζ.2, .row 119 2 (List.map Arr.c (a.arrays))))]) [⟨[1], some 12, [], []⟩, ⟨[12], some 13, [[1]], []⟩, ⟨[13], some 14, [], [[14, 0]]⟩, ⟨[3], some 15, [], []⟩, ⟨[15, 14], none, [[3]], [[3]]⟩] (fun k15 => ?_) ?_
 ·skip
  refine .fieldAddrP (.no rfl) rfl t25 rfl rfl t23 rfl rfl rfl rfl ?_
  refine .load (.no rfl) rfl t23 rfl rfl (.ptr _ _ _ _ _ rfl) rfl rfl rfl rfl ?_
  refine .call (.no rfl) rfl [] [] (c_toArrS a.arrays (by omega)) rfl rfl rfl rfl rfl (.cons (Reads.d _).gives .nil) rfl rfl (fun h => absurd rfl h) (.own [14, 0] .nil) (.nil) rfl rfl rfl (by simp) rfl rfl rfl ?_
  refine .fieldAddrP (.no rfl) rfl t38 rfl rfl t36 rfl rfl rfl rfl ?_
  refine .store (.no rfl) rfl t36 rfl rfl rfl rfl rfl rfl rfl rfl rfl ?_
  exact .fin (k15 + 1 + 1 + 1 + 1, k15 + 1 + 1) (.of (.cons rfl (.cons rfl .nil)) (.cons rfl (.cons rfl (.cons rfl (.cons rfl (.cons rfl .nil))))))
 rintro ⟨g16, g17⟩
 refine .seq ?_
 refine .reg (X := Nat) (fun ζ => .of [(2, .one (.ptr [2] (g6) 0))] [([2], (g6, ζ, .box [.ref [6, 0] (g11), .ref [10, 0] (g14), .ref [14, 0] (g17)])), ([6, 0], (g11, g11, .row 9 1 (List.map strc (a.vars)))), ([10, 0], (g14, g14, .row 9 1 (List.map strc (a.flags)))), ([14, 0], (g17, g17, .row 119 2 (List.map Arr.c (a.arrays))))]) [⟨[3], some 16, [[3]], []⟩, ⟨[2, 16], none, [[2]], [[2]]⟩] (fun k18 => ?_) ?_
 ·skip
  refine .load (.no rfl) rfl t38 rfl rfl (.ptr _ _ _ _ _ rfl) rfl rfl rfl rfl ?_
  refine .store (.no rfl) rfl t38 rfl rfl rfl rfl rfl rfl rfl rfl rfl ?_
  exact .fin (k18 + 1) (.of (.cons rfl .nil) (.cons rfl (.cons rfl (.cons rfl (.cons rfl .nil)))))
 intro g19
 refine .ret ?_
 show _ ∧ _
 exact ⟨.inr rfl, .done ⟨_, [], [([6, 0], (g11, g11, .row 9 1 (List.map strc (a.vars)))), ([10, 0], (g14, g14, .row 9 1 (List.map strc (a.flags)))), ([14, 0], (g17, g17, .row 119 2 (List.map Arr.c (a.arrays))))], _, .cell (cells := [.ref [6, 0] (g11), .ref [10, 0] (g14), .ref [14, 0] (g17)]) rfl rfl t38 rfl rfl .nil, .cons (.ref (.head _)) (.cons (.ref (.tail _ (.head _))) (.cons (.ref (.tail _ (.tail _ (.head _)))) .nil)), nodupB_ok rfl, by simp, (AllH.get (.cons rfl (.cons rfl (.cons rfl .nil))))⟩⟩
theorem c_eqInterval (a : Iv) (b : Iv) : Trip Tryz.prog 125 [(true, 2), (true, 2)] (Iv.c a ++ Iv.c b) [(false, 1)] [.v (.bool (Iv.same a b))] [] := by
 refine Trip.of Tryz.func125 (by decide) (c := _) rfl rfl (shB_ok rfl) (Nat.le_of_ble_eq_true rfl) rfl (AftOk.nil _) ?_
 refine .seq ?_
 refine .reg (X := Nat × Nat) (fun ζ => .of [(2, .one (.ptr [2] (ζ.1) 0)), (3, .one (.ptr [3] (ζ.2) 0))] [([2], (ζ.1, ζ.1, .box [.d (.v (.int .i64 (a.lo))), .d (.v (.int .i64 (a.hi)))])), ([3], (ζ.2, ζ.2, .box [.d (.v (.int .i64 (b.lo))), .d (.v (.int .i64 (b.hi)))]))]) [⟨[0], some 2, [], [[2]]⟩, ⟨[1], some 3, [], [[3]]⟩, ⟨[], some 4, [], []⟩] (fun k1 => ?_) ?_
 ·skip
  refine .box (.no rfl) rfl rfl rfl rfl rfl ?_
  refine .box (.no rfl) rfl rfl rfl rfl rfl ?_
  refine .assign (.no rfl) rfl rfl rfl rfl ?_
  exact .fin (k1, k1 + 1) (.of (.cons rfl (.cons rfl .nil)) (.cons rfl (.cons rfl .nil)))
 rintro ⟨g2, g3⟩
 refine .seq ?_
 refine .seq ?_
 refine .reg (X := Unit) (fun ζ => .of [(2, .one (.ptr [2] (g2) 0)), (3, .one (.ptr [3] (g3) 0)), (9, .one (.d (.v (.bool (a.lo != b.lo)))))] [([2], (g2, g2, .box [.d (.v (.int .i64 (a.lo))), .d (.v (.int .i64 (a.hi)))])), ([3], (g3, g3, .box [.d (.v (.int .i64 (b.lo))), .d (.v (.int .i64 (b.hi)))]))]) [⟨[2], some 5, [], []⟩, ⟨[5], some 6, [[2]], []⟩, ⟨[3], some 7, [], []⟩, ⟨[7], some 8, [[3]], []⟩, ⟨[6, 8], some 9, [], []⟩] (fun k4 => ?_) ?_
 ·skip
  refine .fieldAddrP (.no rfl) rfl t122 rfl rfl t2 rfl rfl rfl rfl ?_
  refine .load (.no rfl) rfl t2 rfl rfl (.ptr _ _ _ _ _ rfl) rfl rfl rfl rfl ?_
  refine .fieldAddrP (.no rfl) rfl t122 rfl rfl t2 rfl rfl rfl rfl ?_
  refine .load (.no rfl) rfl t2 rfl rfl (.ptr _ _ _ _ _ rfl) rfl rfl rfl rfl ?_
  refine .bin (.no rfl) rfl rfl rfl rfl rfl rfl ?_
  exact .fin () (.of (.cons rfl (.cons rfl (.cons rfl .nil))) (.cons rfl (.cons rfl .nil)))
 intro _
 refine .cond (t := a.lo != b.lo) rfl (fun c0 => ?_) (fun c0 => ?_)
 ·have c0 := (by simpa using c0 : ¬ (a.lo = b.lo))
  refine .seq ?_
  refine .reg (X := Unit) (fun ζ => .of [(4, .one (.d (.v (.bool (false)))))] []) [⟨[], some 4, [], []⟩] (fun k5 => ?_) ?_
  ·skip
   refine .assign (.no rfl) rfl rfl rfl rfl ?_
   exact .fin () (.of (.cons rfl .nil) .nil)
  intro _
  refine .ret ?_
  have e6 : (false) = (Iv.same a b) := by (simp_all [Iv.same])
  have hc7 := eq1 (fun z1 => SV.one (.d (.v (.bool (z1))))) e6
  show _ ∧ _
  exact ⟨.inr rfl, .done ⟨_, [], [], _, .one (c := .d (.v (.bool (Iv.same a b)))) (hc7) .nil, .cons (Reads.d _).gives .nil, nodupB_ok rfl, by simp, (by simp)⟩⟩
 ·have c0 := (by simpa using c0 : a.lo = b.lo)
  refine .skip ?_
  refine .seq ?_
  refine .seq ?_
  refine .reg (X := Unit) (fun ζ => .of [(14, .one (.d (.v (.bool (a.hi != b.hi)))))] []) [⟨[2], some 10, [], []⟩, ⟨[10], some 11, [[2]], []⟩, ⟨[3], some 12, [], []⟩, ⟨[12], some 13, [[3]], []⟩, ⟨[11, 13], some 14, [], []⟩] (fun k8 => ?_) ?_
  ·skip
   refine .fieldAddrP (.no rfl) rfl t122 rfl rfl t2 rfl rfl rfl rfl ?_
   refine .load (.no rfl) rfl t2 rfl rfl (.ptr _ _ _ _ _ rfl) rfl rfl rfl rfl ?_
   refine .fieldAddrP (.no rfl) rfl t122 rfl rfl t2 rfl rfl rfl rfl ?_
   refine .load (.no rfl) rfl t2 rfl rfl (.ptr _ _ _ _ _ rfl) rfl rfl rfl rfl ?_
   refine .bin (.no rfl) rfl rfl rfl rfl rfl rfl ?_
   exact .fin () (.of (.cons rfl .nil) .nil)
  intro _
  refine .cond (t := a.hi != b.hi) rfl (fun c1 => ?_) (fun c1 => ?_)
  ·have c1 := (by simpa using c1 : ¬ (a.hi = b.hi))
   refine .seq ?_
   refine .reg (X := Unit) (fun ζ => .of [(4, .one (.d (.v (.bool (false)))))] []) [⟨[], some 4, [], []⟩] (fun k9 => ?_) ?_
   ·skip
    refine .assign (.no rfl) rfl rfl rfl rfl ?_
    exact .fin () (.of (.cons rfl .nil) .nil)
   intro _
   refine .ret ?_
   have e10 : (false) = (Iv.same a b) := by (simp_all [Iv.same])
   have hc11 := eq1 (fun z1 => SV.one (.d (.v (.bool (z1))))) e10
   show _ ∧ _
   exact ⟨.inr rfl, .done ⟨_, [], [], _, .one (c := .d (.v (.bool (Iv.same a b)))) (hc11) .nil, .cons (Reads.d _).gives .nil, nodupB_ok rfl, by simp, (by simp)⟩⟩
  ·have c1 := (by simpa using c1 : a.hi = b.hi)
   refine .skip ?_
   refine .seq ?_
   refine .reg (X := Unit) (fun ζ => .of [(4, .one (.d (.v (.bool (true)))))] []) [⟨[], some 4, [], []⟩] (fun k12 => ?_) ?_
   ·skip
    refine .assign (.no rfl) rfl rfl rfl rfl ?_
    exact .fin () (.of (.cons rfl .nil) .nil)
   intro _
   refine .ret ?_
   have e13 : (true) = (Iv.same a b) := by (simp_all [Iv.same])
   have hc14 := eq1 (fun z1 => SV.one (.d (.v (.bool (z1))))) e13
   show _ ∧ _
   exact ⟨.inr rfl, .done ⟨_, [], [], _, .one (c := .d (.v (.bool (Iv.same a b)))) (hc14) .nil, .cons (Reads.d _).gives .nil, nodupB_ok rfl, by simp, (by simp)⟩⟩
theorem c_eqArr (a : Arr) (b : Arr) : Trip Tryz.prog 90 [(true, 2), (true, 2)] (Arr.c a ++ Arr.c b) [(false, 1)] [.v (.bool (Arr.same a b))] [] := by
 refine Trip.of Tryz.func90 (by decide) (c := _) rfl rfl (shB_ok rfl) (Nat.le_of_ble_eq_true rfl) rfl (AftOk.nil _) ?_
 refine .seq ?_
 refine .reg (X := Nat × Nat) (fun ζ => .of [(2, .one (.ptr [2] (ζ.1) 0)), (3, .one (.ptr [3] (ζ.2) 0))] [([2], (ζ.1, ζ.1, .box [.d (.v (.string (a.name))), .d (.v (.int .i64 (a.size)))])), ([3], (ζ.2, ζ.2, .box [.d (.v (.string (b.name))), .d (.v (.int .i64 (b.size)))]))]) [⟨[0], some 2, [], [[2]]⟩, ⟨[1], some 3, [], [[3]]⟩, ⟨[], some 4, [], []⟩] (fun k1 => ?_) ?_
 ·skip
  refine .box (.no rfl) rfl rfl rfl rfl rfl ?_
  refine .box (.no rfl) rfl rfl rfl rfl rfl ?_
  refine .assign (.no rfl) rfl rfl rfl rfl ?_
  exact .fin (k1, k1 + 1) (.of (.cons rfl (.cons rfl .nil)) (.cons rfl (.cons rfl .nil)))
 rintro ⟨g2, g3⟩
 refine .seq ?_
 refine .seq ?_
 refine .reg (X := Unit) (fun ζ => .of [(2, .one (.ptr [2] (g2) 0)), (3, .one (.ptr [3] (g3) 0)), (9, .one (.d (.v (.bool (!(a.name.toList == b.name.toList))))))] [([2], (g2, g2, .box [.d (.v (.string (a.name))), .d (.v (.int .i64 (a.size)))])), ([3], (g3, g3, .box [.d (.v (.string (b.name))), .d (.v (.int .i64 (b.size)))]))]) [⟨[2], some 5, [], []⟩, ⟨[5], some 6, [[2]], []⟩, ⟨[3], some 7, [], []⟩, ⟨[7], some 8, [[3]], []⟩, ⟨[6, 8], some 9, [], []⟩] (fun k4 => ?_) ?_
 ·skip
  refine .fieldAddrP (.no rfl) rfl t119 rfl rfl t9 rfl rfl rfl rfl ?_
  refine .load (.no rfl) rfl t9 rfl rfl (.ptr _ _ _ _ _ rfl) rfl rfl rfl rfl ?_
  refine .fieldAddrP (.no rfl) rfl t119 rfl rfl t9 rfl rfl rfl rfl ?_
  refine .load (.no rfl) rfl t9 rfl rfl (.ptr _ _ _ _ _ rfl) rfl rfl rfl rfl ?_
  refine .bin (.no rfl) rfl rfl rfl rfl rfl rfl ?_
  exact .fin () (.of (.cons rfl (.cons rfl (.cons rfl .nil))) (.cons rfl (.cons rfl .nil)))
 intro _
 refine .cond (t := !(a.name.toList == b.name.toList)) rfl (fun c0 => ?_) (fun c0 => ?_)
 ·have c0 := c0
  try simp only [Bool.or_eq_true, Bool.or_eq_false_iff, Bool.and_eq_true, Bool.and_eq_false_iff, decide_eq_true_eq, decide_eq_false_iff_not, Bool.not_eq_true', Bool.not_eq_false', bne_iff_ne, beq_iff_eq, bne_eq_false_iff_eq, beq_eq_false_iff_ne, ne_eq, Bool.not_eq_eq_eq_not, Bool.not_true, Bool.not_false] at c0
  refine .seq ?_
  refine .reg (X := Unit) (fun ζ => .of [(4, .one (.d (.v (.bool (false)))))] []) [⟨[], some 4, [], []⟩] (fun k5 => ?_) ?_
  ·skip
   refine .assign (.no rfl) rfl rfl rfl rfl ?_
   exact .fin () (.of (.cons rfl .nil) .nil)
  intro _
  refine .ret ?_
  have e6 : (false) = (Arr.same a b) := by (simp_all [Arr.same, strEq])
  have hc7 := eq1 (fun z1 => SV.one (.d (.v (.bool (z1))))) e6
  show _ ∧ _
  exact ⟨.inr rfl, .done ⟨_, [], [], _, .one (c := .d (.v (.bool (Arr.same a b)))) (hc7) .nil, .cons (Reads.d _).gives .nil, nodupB_ok rfl, by simp, (by simp)⟩⟩
 ·have c0 := c0
  try simp only [Bool.or_eq_true, Bool.or_eq_false_iff, Bool.and_eq_true, Bool.and_eq_false_iff, decide_eq_true_eq, decide_eq_false_iff_not, Bool.not_eq_true', Bool.not_eq_false', bne_iff_ne, beq_iff_eq, bne_eq_false_iff_eq, beq_eq_false_iff_ne, ne_eq, Bool.not_eq_eq_eq_not, Bool.not_true, Bool.not_false] at c0
  refine .skip ?_
  refine .seq ?_
  refine .seq ?_
  refine .reg (X := Unit) (fun ζ => .of [(14, .one (.d (.v (.bool (a.size != b.size)))))] []) [⟨[2], some 10, [], []⟩, ⟨[10], some 11, [[2]], []⟩, ⟨[3], some 12, [], []⟩, ⟨[12], some 13, [[3]], []⟩, ⟨[11, 13], some 14, [], []⟩] (fun k8 => ?_) ?_
  ·skip
   refine .fieldAddrP (.no rfl) rfl t119 rfl rfl t2 rfl rfl rfl rfl ?_
   refine .load (.no rfl) rfl t2 rfl rfl (.ptr _ _ _ _ _ rfl) rfl rfl rfl rfl ?_
   refine .fieldAddrP (.no rfl) rfl t119 rfl rfl t2 rfl rfl rfl rfl ?_
   refine .load (.no rfl) rfl t2 rfl rfl (.ptr _ _ _ _ _ rfl) rfl rfl rfl rfl ?_
   refine .bin (.no rfl) rfl rfl rfl rfl rfl rfl ?_
   exact .fin () (.of (.cons rfl .nil) .nil)
  intro _
  refine .cond (t := a.size != b.size) rfl (fun c1 => ?_) (fun c1 => ?_)
  ·have c1 := (by simpa using c1 : ¬ (a.size = b.size))
   refine .seq ?_
   refine .reg (X := Unit) (fun ζ => .of [(4, .one (.d (.v (.bool (false)))))] []) [⟨[], some 4, [], []⟩] (fun k9 => ?_) ?_
   ·skip
    refine .assign (.no rfl) rfl rfl rfl rfl ?_
    exact .fin () (.of (.cons rfl .nil) .nil)
   intro _
   refine .ret ?_
   have e10 : (false) = (Arr.same a b) := by (simp_all [Arr.same, strEq])
   have hc11 := eq1 (fun z1 => SV.one (.d (.v (.bool (z1))))) e10
   show _ ∧ _
   exact ⟨.inr rfl, .done ⟨_, [], [], _, .one (c := .d (.v (.bool (Arr.same a b)))) (hc11) .nil, .cons (Reads.d _).gives .nil, nodupB_ok rfl, by simp, (by simp)⟩⟩
  ·have c1 := (by simpa using c1 : a.size = b.size)
   refine .skip ?_
   refine .seq ?_
   refine .reg (X := Unit) (fun ζ => .of [(4, .one (.d (.v (.bool (true)))))] []) [⟨[], some 4, [], []⟩] (fun k12 => ?_) ?_
   ·skip
    refine .assign (.no rfl) rfl rfl rfl rfl ?_
    exact .fin () (.of (.cons rfl .nil) .nil)
   intro _
   refine .ret ?_
   have e13 : (true) = (Arr.same a b) := by (simp_all [Arr.same, strEq])
   have hc14 := eq1 (fun z1 => SV.one (.d (.v (.bool (z1))))) e13
   show _ ∧ _
   exact ⟨.inr rfl, .done ⟨_, [], [], _, .one (c := .d (.v (.bool (Arr.same a b)))) (hc14) .nil, .cons (Reads.d _).gives .nil, nodupB_ok rfl, by simp, (by simp)⟩⟩
theorem c_eqIntervalS (a : List Iv) (b : List Iv) : Trip Tryz.prog 91 [(false, 1), (false, 1)] ([.sl false 122 2 (List.map Iv.c (a))] ++ [.sl false 122 2 (List.map Iv.c (b))]) [(false, 1)] [.v (.bool (all2 Iv.same a b))] [] := by
 refine Trip.of Tryz.func91 (by decide) (c := _) rfl rfl (shB_ok rfl) (Nat.le_of_ble_eq_true rfl) rfl (AftOk.nil _) ?_
 refine .sat (t := 0) rfl (fun hs1 => ?_)
 have hs1l : a.length ≤ 9223372036854775807 := hs1.maplen
 refine .sat (t := 1) rfl (fun hs2 => ?_)
 have hs2l : b.length ≤ 9223372036854775807 := hs2.maplen
 refine .seq ?_
 refine .reg (X := Unit) (fun ζ => .of [(0, .one (.d (.sl false 122 2 (List.map Iv.c (a))))), (1, .one (.d (.sl false 122 2 (List.map Iv.c (b)))))] []) [⟨[], some 4, [], []⟩] (fun k3 => ?_) ?_
 ·skip
  refine .assign (.no rfl) rfl rfl rfl rfl ?_
  exact .fin () (.of (.cons rfl (.cons rfl .nil)) .nil)
 intro _
 refine .seq ?_
 refine .seq ?_
 refine .reg (X := Unit) (fun ζ => .of [(0, .one (.d (.sl false 122 2 (List.map Iv.c (a))))), (1, .one (.d (.sl false 122 2 (List.map Iv.c (b))))), (10, .one (.d (.v (.bool ((a.length : Int) != (b.length : Int))))))] []) [⟨[0], some 6, [], []⟩, ⟨[6], some 7, [], []⟩, ⟨[1], some 8, [], []⟩, ⟨[8], some 9, [], []⟩, ⟨[7, 9], some 10, [], []⟩] (fun k4 => ?_) ?_
 ·skip
  refine .move (.no rfl) rfl rfl rfl rfl ?_
  refine .len (.no rfl) rfl (z := (a.length : Int)) t75 rfl rfl rfl (.d _ _) (map_len _ _) rfl ?_
  refine .move (.no rfl) rfl rfl rfl rfl ?_
  refine .len (.no rfl) rfl (z := (b.length : Int)) t75 rfl rfl rfl (.d _ _) (map_len _ _) rfl ?_
  refine .bin (.no rfl) rfl rfl rfl rfl rfl rfl ?_
  exact .fin () (.of (.cons rfl (.cons rfl (.cons rfl .nil))) .nil)
 intro _
 refine .cond (t := (a.length : Int) != (b.length : Int)) rfl (fun c0 => ?_) (fun c0 => ?_)
 ·have c0 := (by simpa using c0 : ¬ ((a.length : Int) = (b.length : Int)))
  refine .seq ?_
  refine .reg (X := Unit) (fun ζ => .of [(4, .one (.d (.v (.bool (false)))))] []) [⟨[], some 4, [], []⟩] (fun k5 => ?_) ?_
  ·skip
   refine .assign (.no rfl) rfl rfl rfl rfl ?_
   exact .fin () (.of (.cons rfl .nil) .nil)
  intro _
  refine .ret ?_
  have e6 : (false) = (all2 Iv.same a b) := by exact (all2_ne _ c0).symm
  have hc7 := eq1 (fun z1 => SV.one (.d (.v (.bool (z1))))) e6
  show _ ∧ _
  exact ⟨.inr rfl, .done ⟨_, [], [], _, .one (c := .d (.v (.bool (all2 Iv.same a b)))) (hc7) .nil, .cons (Reads.d _).gives .nil, nodupB_ok rfl, by simp, (by simp)⟩⟩
 ·have c0 := (by simpa using c0 : (a.length : Int) = (b.length : Int))
  refine .skip ?_
  refine .seq ?_
  refine .seq ?_
  refine .reg (X := Unit) (fun ζ => .of [(0, .one (.d (.sl false 122 2 (List.map Iv.c (a))))), (1, .one (.d (.sl false 122 2 (List.map Iv.c (b))))), (5, .one (.d (.v (.int .i64 (0)))))] []) [⟨[], some 5, [], []⟩] (fun k8 => ?_) ?_
  ·skip
   refine .assign (.no rfl) rfl rfl rfl rfl ?_
   exact .fin () (.of (.cons rfl (.cons rfl (.cons rfl .nil))) .nil)
  intro _
  refine .block ?_
  refine .loop (X := Nat) (fun ζ => .of [(0, .one (.d (.sl false 122 2 (List.map Iv.c (a))))), (1, .one (.d (.sl false 122 2 (List.map Iv.c (b))))), (5, .one (.d (.v (.int .i64 ((ζ : Int))))))] []) (fun ζ => ζ ≤ a.length ∧ a.length = b.length ∧ allTo ζ (fun i => Iv.same (a.getD i default) (b.getD i default)) = true) (fun ζ => a.length - ζ) ?_ ?_
  ·skip
   exact .here 0 (.of (.cons rfl (.cons rfl (.cons (svI (show (0) = ((0 : Int)) by first | rfl | omega | exact wrap_le (by omega) (by omega) | (rw [wrap_le (by omega) (by omega)]; omega))) .nil))) .nil) (show 0 ≤ a.length ∧ a.length = b.length ∧ allTo 0 (fun i => Iv.same (a.getD i default) (b.getD i default)) = true by exact ⟨by omega, by omega, rfl⟩)
  ·rintro j hI
   have hI : j ≤ a.length ∧ a.length = b.length ∧ allTo j (fun i => Iv.same (a.getD i default) (b.getD i default)) = true := hI
   refine .seq ?_
   refine .seq ?_
   refine .reg (X := Unit) (fun ζ => .of [(0, .one (.d (.sl false 122 2 (List.map Iv.c (a))))), (1, .one (.d (.sl false 122 2 (List.map Iv.c (b))))), (5, .one (.d (.v (.int .i64 ((j : Int)))))), (14, .one (.d (.v (.bool (decide ((j : Int) < (a.length : Int)))))))] []) [⟨[5], some 11, [], []⟩, ⟨[0], some 12, [], []⟩, ⟨[12], some 13, [], []⟩, ⟨[11, 13], some 14, [], []⟩] (fun k9 => ?_) ?_
   ·skip
    refine .move (.no rfl) rfl rfl rfl rfl ?_
    refine .move (.no rfl) rfl rfl rfl rfl ?_
    refine .len (.no rfl) rfl (z := (a.length : Int)) t75 rfl rfl rfl (.d _ _) (map_len _ _) rfl ?_
    refine .bin (.no rfl) rfl rfl rfl rfl rfl rfl ?_
    exact .fin () (.of (.cons rfl (.cons rfl (.cons rfl (.cons rfl .nil)))) .nil)
   intro _
   refine .cond (t := decide ((j : Int) < (a.length : Int))) rfl (fun c1 => ?_) (fun c1 => ?_)
   ·have c1 := of_decide_eq_true c1
    refine .skip ?_
    refine .seq ?_
    refine .block ?_
    refine .seq ?_
    refine .regD (X := Unit) (by kernel_rfl) (fun ζ => .of [(0, .one (.d (.sl false 122 2 (List.map Iv.c (a))))), (1, .one (.d (.sl false 122 2 (List.map Iv.c (b))))), (5, .one (.d (.v (.int .i64 ((j : Int)))))), (26, .one (.d (.v (.bool (!(Iv.same (a.getD j default) (b.getD j default)))))))] []) [⟨[0], some 17, [], []⟩, ⟨[5], some 18, [], []⟩, ⟨[17, 18], some 19, [], []⟩, ⟨[19], some 20, [], []⟩, ⟨[1], some 21, [], []⟩, ⟨[5], some 22, [], []⟩, ⟨[21, 22], some 23, [], []⟩, ⟨[23], some 24, [], []⟩, ⟨[20, 24], some 25, [], []⟩, ⟨[25], some 26, [], []⟩] (by kernel_rfl) (fun k10 => ?_) ?_
    ·skip
     refine .move (.no rfl) rfl rfl rfl rfl ?_
     refine .move (.no rfl) rfl rfl rfl rfl ?_
     refine .indexAddr (.no rfl) rfl (j) t75 rfl t122 rfl rfl rfl (.d _ _) rfl rfl rfl (map_get (by omega)) rfl rfl ?_
     refine .load (.no rfl) rfl t122 rfl rfl (.d _) rfl rfl rfl rfl ?_
     refine .move (.no rfl) rfl rfl rfl rfl ?_
     refine .move (.no rfl) rfl rfl rfl rfl ?_
     refine .indexAddr (.no rfl) rfl (j) t75 rfl t122 rfl rfl rfl (.d _ _) rfl rfl rfl (map_get (by omega)) rfl rfl ?_
     refine .load (.no rfl) rfl t122 rfl rfl (.d _) rfl rfl rfl rfl ?_
     refine .call (.no rfl) rfl [] [] (c_eqInterval (a.getD j default) (b.getD j default)) rfl rfl rfl rfl rfl (.cons (Reads.d _).gives (.cons (Reads.d _).gives (.cons (Reads.d _).gives (.cons (Reads.d _).gives .nil)))) rfl rfl (fun h => absurd rfl h) (.own [25, 0] .nil) (.nil) rfl rfl rfl (by simp) rfl rfl rfl ?_
     refine .un (.no rfl) rfl rfl rfl rfl rfl ?_
     exact .fin () (.of (.cons rfl (.cons rfl (.cons rfl (.cons rfl .nil)))) .nil)
    intro _
    refine .cond (t := !(Iv.same (a.getD j default) (b.getD j default))) rfl (fun c2 => ?_) (fun c2 => ?_)
    ·have c2 := c2
     try simp only [Bool.or_eq_true, Bool.or_eq_false_iff, Bool.and_eq_true, Bool.and_eq_false_iff, decide_eq_true_eq, decide_eq_false_iff_not, Bool.not_eq_true', Bool.not_eq_false', bne_iff_ne, beq_iff_eq, bne_eq_false_iff_eq, beq_eq_false_iff_ne, ne_eq, Bool.not_eq_eq_eq_not, Bool.not_true, Bool.not_false] at c2
     refine .seq ?_
     refine .reg (X := Unit) (fun ζ => .of [(4, .one (.d (.v (.bool (false)))))] []) [⟨[], some 4, [], []⟩] (fun k11 => ?_) ?_
     ·skip
      refine .assign (.no rfl) rfl rfl rfl rfl ?_
      exact .fin () (.of (.cons rfl .nil) .nil)
     intro _
     refine .ret ?_
     have e12 : (false) = (all2 Iv.same a b) := by exact (all2_fail _ (j := j) (by omega) (by simpa [] using c2)).symm
     have hc13 := eq1 (fun z1 => SV.one (.d (.v (.bool (z1))))) e12
     show _ ∧ _
     exact ⟨.inr rfl, .done ⟨_, [], [], _, .one (c := .d (.v (.bool (all2 Iv.same a b)))) (hc13) .nil, .cons (Reads.d _).gives .nil, nodupB_ok rfl, by simp, (by simp)⟩⟩
    ·have c2 := c2
     try simp only [Bool.or_eq_true, Bool.or_eq_false_iff, Bool.and_eq_true, Bool.and_eq_false_iff, decide_eq_true_eq, decide_eq_false_iff_not, Bool.not_eq_true', Bool.not_eq_false', bne_iff_ne, beq_iff_eq, bne_eq_false_iff_eq, beq_eq_false_iff_ne, ne_eq, Bool.not_eq_eq_eq_not, Bool.not_true, Bool.not_false] at c2
     refine .skip ?_
     refine .reg (X := Unit) (fun ζ => .of [(0, .one (.d (.sl false 122 2 (List.map Iv.c (a))))), (1, .one (.d (.sl false 122 2 (List.map Iv.c (b))))), (5, .one (.d (.v (.int .i64 (IntKind.wrap .i64 ((j : Int) + 1))))))] []) [⟨[5], some 15, [], []⟩, ⟨[15], some 16, [], []⟩, ⟨[16], some 5, [], []⟩] (fun k14 => ?_) ?_
     ·skip
      refine .move (.no rfl) rfl rfl rfl rfl ?_
      refine .bin (.no rfl) rfl rfl rfl rfl rfl rfl ?_
      refine .assign (.no rfl) rfl rfl rfl rfl ?_
      exact .fin () (.of (.cons rfl (.cons rfl (.cons rfl .nil))) .nil)
     intro _
     exact .here (j + 1) (.of (.cons rfl (.cons rfl (.cons (svI (show (IntKind.wrap .i64 ((j : Int) + 1)) = (((j + 1) : Int)) by first | rfl | omega | exact wrap_le (by omega) (by omega) | (rw [wrap_le (by omega) (by omega)]; omega))) .nil))) .nil) ⟨(show (j + 1) ≤ a.length ∧ a.length = b.length ∧ allTo (j + 1) (fun i => Iv.same (a.getD i default) (b.getD i default)) = true by exact ⟨by omega, by omega, allTo_step hI.2.2 (by simpa [] using c2)⟩), (show a.length - (j + 1) < a.length - j by omega)⟩
   ·have c1 := of_decide_eq_false c1
    refine .exit ?_
    refine .seq ?_
    refine .reg (X := Unit) (fun ζ => .of [(4, .one (.d (.v (.bool (true)))))] []) [⟨[], some 4, [], []⟩] (fun k15 => ?_) ?_
    ·skip
     refine .assign (.no rfl) rfl rfl rfl rfl ?_
     exact .fin () (.of (.cons rfl .nil) .nil)
    intro _
    refine .ret ?_
    have e16 : (true) = (all2 Iv.same a b) := by (have hj : j = a.length := (by omega); subst hj; exact (all2_done _ hI.2.1 hI.2.2).symm)
    have hc17 := eq1 (fun z1 => SV.one (.d (.v (.bool (z1))))) e16
    show _ ∧ _
    exact ⟨.inr rfl, .done ⟨_, [], [], _, .one (c := .d (.v (.bool (all2 Iv.same a b)))) (hc17) .nil, .cons (Reads.d _).gives .nil, nodupB_ok rfl, by simp, (by simp)⟩⟩
theorem c_eqStringS (a : List ByteArray) (b : List ByteArray) : Trip Tryz.prog 52 [(false, 1), (false, 1)] ([.sl false 9 1 (List.map strc (a))] ++ [.sl false 9 1 (List.map strc (b))]) [(false, 1)] [.v (.bool (all2 strEq a b))] [] := by
 refine Trip.of Tryz.func52 (by decide) (c := _) rfl rfl (shB_ok rfl) (Nat.le_of_ble_eq_true rfl) rfl (AftOk.nil _) ?_
 refine .sat (t := 0) rfl (fun hs1 => ?_)
 have hs1l : a.length ≤ 9223372036854775807 := hs1.maplen
 refine .sat (t := 1) rfl (fun hs2 => ?_)
 have hs2l : b.length ≤ 9223372036854775807 := hs2.maplen
 refine .seq ?_
 refine .reg (X := Unit) (fun ζ => .of [(0, .one (.d (.sl false 9 1 (List.map strc (a))))), (1, .one (.d (.sl false 9 1 (List.map strc (b)))))] []) [⟨[], some 4, [], []⟩] (fun k3 => ?_) ?_
 ·skip
  refine .assign (.no rfl) rfl rfl rfl rfl ?_
  exact .fin () (.of (.cons rfl (.cons rfl .nil)) .nil)
 intro _
 refine .seq ?_
 refine .seq ?_
 refine .reg (X := Unit) (fun ζ => .of [(0, .one (.d (.sl false 9 1 (List.map strc (a))))), (1, .one (.d (.sl false 9 1 (List.map strc (b))))), (10, .one (.d (.v (.bool ((a.length : Int) != (b.length : Int))))))] []) [⟨[0], some 6, [], []⟩, ⟨[6], some 7, [], []⟩, ⟨[1], some 8, [], []⟩, ⟨[8], some 9, [], []⟩, ⟨[7, 9], some 10, [], []⟩] (fun k4 => ?_) ?_
 ·skip
  refine .move (.no rfl) rfl rfl rfl rfl ?_
  refine .len (.no rfl) rfl (z := (a.length : Int)) t22 rfl rfl rfl (.d _ _) (map_len _ _) rfl ?_
  refine .move (.no rfl) rfl rfl rfl rfl ?_
  refine .len (.no rfl) rfl (z := (b.length : Int)) t22 rfl rfl rfl (.d _ _) (map_len _ _) rfl ?_
  refine .bin (.no rfl) rfl rfl rfl rfl rfl rfl ?_
  exact .fin () (.of (.cons rfl (.cons rfl (.cons rfl .nil))) .nil)
 intro _
 refine .cond (t := (a.length : Int) != (b.length : Int)) rfl (fun c0 => ?_) (fun c0 => ?_)
 ·have c0 := (by simpa using c0 : ¬ ((a.length : Int) = (b.length : Int)))
  refine .seq ?_
  refine .reg (X := Unit) (fun ζ => .of [(4, .one (.d (.v (.bool (false)))))] []) [⟨[], some 4, [], []⟩] (fun k5 => ?_) ?_
  ·skip
   refine .assign (.no rfl) rfl rfl rfl rfl ?_
   exact .fin () (.of (.cons rfl .nil) .nil)
  intro _
  refine .ret ?_
  have e6 : (false) = (all2 strEq a b) := by exact (all2_ne _ c0).symm
  have hc7 := eq1 (fun z1 => SV.one (.d (.v (.bool (z1))))) e6
  show _ ∧ _
  exact ⟨.inr rfl, .done ⟨_, [], [], _, .one (c := .d (.v (.bool (all2 strEq a b)))) (hc7) .nil, .cons (Reads.d _).gives .nil, nodupB_ok rfl, by simp, (by simp)⟩⟩
 ·have c0 := (by simpa using c0 : (a.length : Int) = (b.length : Int))
  refine .skip ?_
  refine .seq ?_
  refine .seq ?_
  refine .reg (X := Unit) (fun ζ => .of [(0, .one (.d (.sl false 9 1 (List.map strc (a))))), (1, .one (.d (.sl false 9 1 (List.map strc (b))))), (5, .one (.d (.v (.int .i64 (0)))))] []) [⟨[], some 5, [], []⟩] (fun k8 => ?_) ?_
  ·skip
   refine .assign (.no rfl) rfl rfl rfl rfl ?_
   exact .fin () (.of (.cons rfl (.cons rfl (.cons rfl .nil))) .nil)
  intro _
  refine .block ?_
  refine .loop (X := Nat) (fun ζ => .of [(0, .one (.d (.sl false 9 1 (List.map strc (a))))), (1, .one (.d (.sl false 9 1 (List.map strc (b))))), (5, .one (.d (.v (.int .i64 ((ζ : Int))))))] []) (fun ζ => ζ ≤ a.length ∧ a.length = b.length ∧ allTo ζ (fun i => strEq (a.getD i default) (b.getD i default)) = true) (fun ζ => a.length - ζ) ?_ ?_
  ·skip
   exact .here 0 (.of (.cons rfl (.cons rfl (.cons (svI (show (0) = ((0 : Int)) by first | rfl | omega | exact wrap_le (by omega) (by omega) | (rw [wrap_le (by omega) (by omega)]; omega))) .nil))) .nil) (show 0 ≤ a.length ∧ a.length = b.length ∧ allTo 0 (fun i => strEq (a.getD i default) (b.getD i default)) = true by exact ⟨by omega, by omega, rfl⟩)
  ·rintro j hI
   have hI : j ≤ a.length ∧ a.length = b.length ∧ allTo j (fun i => strEq (a.getD i default) (b.getD i default)) = true := hI
   refine .seq ?_
   refine .seq ?_
   refine .reg (X := Unit) (fun ζ => .of [(0, .one (.d (.sl false 9 1 (List.map strc (a))))), (1, .one (.d (.sl false 9 1 (List.map strc (b))))), (5, .one (.d (.v (.int .i64 ((j : Int)))))), (14, .one (.d (.v (.bool (decide ((j : Int) < (a.length : Int)))))))] []) [⟨[5], some 11, [], []⟩, ⟨[0], some 12, [], []⟩, ⟨[12], some 13, [], []⟩, ⟨[11, 13], some 14, [], []⟩] (fun k9 => ?_) ?_
   ·skip
    refine .move (.no rfl) rfl rfl rfl rfl ?_
    refine .move (.no rfl) rfl rfl rfl rfl ?_
    refine .len (.no rfl) rfl (z := (a.length : Int)) t22 rfl rfl rfl (.d _ _) (map_len _ _) rfl ?_
    refine .bin (.no rfl) rfl rfl rfl rfl rfl rfl ?_
    exact .fin () (.of (.cons rfl (.cons rfl (.cons rfl (.cons rfl .nil)))) .nil)
   intro _
   refine .cond (t := decide ((j : Int) < (a.length : Int))) rfl (fun c1 => ?_) (fun c1 => ?_)
   ·have c1 := of_decide_eq_true c1
    refine .skip ?_
    refine .seq ?_
    refine .block ?_
    refine .seq ?_
    refine .regD (X := Unit) (by kernel_rfl) (fun ζ => .of [(0, .one (.d (.sl false 9 1 (List.map strc (a))))), (1, .one (.d (.sl false 9 1 (List.map strc (b))))), (5, .one (.d (.v (.int .i64 ((j : Int)))))), (25, .one (.d (.v (.bool (!((a.getD j default).toList == (b.getD j default).toList))))))] []) [⟨[0], some 17, [], []⟩, ⟨[5], some 18, [], []⟩, ⟨[17, 18], some 19, [], []⟩, ⟨[19], some 20, [], []⟩, ⟨[1], some 21, [], []⟩, ⟨[5], some 22, [], []⟩, ⟨[21, 22], some 23, [], []⟩, ⟨[23], some 24, [], []⟩, ⟨[20, 24], some 25, [], []⟩] (by kernel_rfl) (fun k10 => ?_) ?_
    ·skip
     refine .move (.no rfl) rfl rfl rfl rfl ?_
     refine .move (.no rfl) rfl rfl rfl rfl ?_
     refine .indexAddr (.no rfl) rfl (j) t22 rfl t9 rfl rfl rfl (.d _ _) rfl rfl rfl (map_get (by omega)) rfl rfl ?_
     refine .load (.no rfl) rfl t9 rfl rfl (.d _) rfl rfl rfl rfl ?_
     refine .move (.no rfl) rfl rfl rfl rfl ?_
     refine .move (.no rfl) rfl rfl rfl rfl ?_
     refine .indexAddr (.no rfl) rfl (j) t22 rfl t9 rfl rfl rfl (.d _ _) rfl rfl rfl (map_get (by omega)) rfl rfl ?_
     refine .load (.no rfl) rfl t9 rfl rfl (.d _) rfl rfl rfl rfl ?_
     refine .bin (.no rfl) rfl rfl rfl rfl rfl rfl ?_
     exact .fin () (.of (.cons rfl (.cons rfl (.cons rfl (.cons rfl .nil)))) .nil)
    intro _
    refine .cond (t := !((a.getD j default).toList == (b.getD j default).toList)) rfl (fun c2 => ?_) (fun c2 => ?_)
    ·have c2 := c2
     try simp only [Bool.or_eq_true, Bool.or_eq_false_iff, Bool.and_eq_true, Bool.and_eq_false_iff, decide_eq_true_eq, decide_eq_false_iff_not, Bool.not_eq_true', Bool.not_eq_false', bne_iff_ne, beq_iff_eq, bne_eq_false_iff_eq, beq_eq_false_iff_ne, ne_eq, Bool.not_eq_eq_eq_not, Bool.not_true, Bool.not_false] at c2
     refine .seq ?_
     refine .reg (X := Unit) (fun ζ => .of [(4, .one (.d (.v (.bool (false)))))] []) [⟨[], some 4, [], []⟩] (fun k11 => ?_) ?_
     ·skip
      refine .assign (.no rfl) rfl rfl rfl rfl ?_
      exact .fin () (.of (.cons rfl .nil) .nil)
     intro _
     refine .ret ?_
     have e12 : (false) = (all2 strEq a b) := by exact (all2_fail _ (j := j) (by omega) (by simpa [strEq] using c2)).symm
     have hc13 := eq1 (fun z1 => SV.one (.d (.v (.bool (z1))))) e12
     show _ ∧ _
     exact ⟨.inr rfl, .done ⟨_, [], [], _, .one (c := .d (.v (.bool (all2 strEq a b)))) (hc13) .nil, .cons (Reads.d _).gives .nil, nodupB_ok rfl, by simp, (by simp)⟩⟩
    ·have c2 := c2
     try simp only [Bool.or_eq_true, Bool.or_eq_false_iff, Bool.and_eq_true, Bool.and_eq_false_iff, decide_eq_true_eq, decide_eq_false_iff_not, Bool.not_eq_true', Bool.not_eq_false', bne_iff_ne, beq_iff_eq, bne_eq_false_iff_eq, beq_eq_false_iff_ne, ne_eq, Bool.not_eq_eq_eq_not, Bool.not_true, Bool.not_false] at c2
     refine .skip ?_
     refine .reg (X := Unit) (fun ζ => .of [(0, .one (.d (.sl false 9 1 (List.map strc (a))))), (1, .one (.d (.sl false 9 1 (List.map strc (b))))), (5, .one (.d (.v (.int .i64 (IntKind.wrap .i64 ((j : Int) + 1))))))] []) [⟨[5], some 15, [], []⟩, ⟨[15], some 16, [], []⟩, ⟨[16], some 5, [], []⟩] (fun k14 => ?_) ?_
     ·skip
      refine .move (.no rfl) rfl rfl rfl rfl ?_
      refine .bin (.no rfl) rfl rfl rfl rfl rfl rfl ?_
      refine .assign (.no rfl) rfl rfl rfl rfl ?_
      exact .fin () (.of (.cons rfl (.cons rfl (.cons rfl .nil))) .nil)
     intro _
     exact .here (j + 1) (.of (.cons rfl (.cons rfl (.cons (svI (show (IntKind.wrap .i64 ((j : Int) + 1)) = (((j + 1) : Int)) by first | rfl | omega | exact wrap_le (by omega) (by omega) | (rw [wrap_le (by omega) (by omega)]; omega))) .nil))) .nil) ⟨(show (j + 1) ≤ a.length ∧ a.length = b.length ∧ allTo (j + 1) (fun i => strEq (a.getD i default) (b.getD i default)) = true by exact ⟨by omega, by omega, allTo_step hI.2.2 (by simpa [strEq] using c2)⟩), (show a.length - (j + 1) < a.length - j by omega)⟩
   ·have c1 := of_decide_eq_false c1
    refine .exit ?_
    refine .seq ?_
    refine .reg (X := Unit) (fun ζ => .of [(4, .one (.d (.v (.bool (true)))))] []) [⟨[], some 4, [], []⟩] (fun k15 => ?_) ?_
    ·skip
     refine .assign (.no rfl) rfl rfl rfl rfl ?_
     exact .fin () (.of (.cons rfl .nil) .nil)
    intro _
    refine .ret ?_
    have e16 : (true) = (all2 strEq a b) := by (have hj : j = a.length := (by omega); subst hj; exact (all2_done _ hI.2.1 hI.2.2).symm)
    have hc17 := eq1 (fun z1 => SV.one (.d (.v (.bool (z1))))) e16
    show _ ∧ _
    exact ⟨.inr rfl, .done ⟨_, [], [], _, .one (c := .d (.v (.bool (all2 strEq a b)))) (hc17) .nil, .cons (Reads.d _).gives .nil, nodupB_ok rfl, by simp, (by simp)⟩⟩
theorem c_eqArrS (a : List Arr) (b : List Arr) : Trip Tryz.prog 53 [(false, 1), (false, 1)] ([.sl false 119 2 (List.map Arr.c (a))] ++ [.sl false 119 2 (List.map Arr.c (b))]) [(false, 1)] [.v (.bool (all2 Arr.same a b))] [] := by
 refine Trip.of Tryz.func53 (by decide) (c := _) rfl rfl (shB_ok rfl) (Nat.le_of_ble_eq_true rfl) rfl (AftOk.nil _) ?_
 refine .sat (t := 0) rfl (fun hs1 => ?_)
 have hs1l : a.length ≤ 9223372036854775807 := hs1.maplen
 refine .sat (t := 1) rfl (fun hs2 => ?_)
 have hs2l : b.length ≤ 9223372036854775807 := hs2.maplen
 refine .seq ?_
 refine .reg (X := Unit) (fun ζ => .of [(0, .one (.d (.sl false 119 2 (List.map Arr.c (a))))), (1, .one (.d (.sl false 119 2 (List.map Arr.c (b)))))] []) [⟨[], some 4, [], []⟩] (fun k3 => ?_) ?_
 ·skip
  refine .assign (.no rfl) rfl rfl rfl rfl ?_
  exact .fin () (.of (.cons rfl (.cons rfl .nil)) .nil)
 intro _
 refine .seq ?_
 refine .seq ?_
 refine .reg (X := Unit) (fun ζ => .of [(0, .one (.d (.sl false 119 2 (List.map Arr.c (a))))), (1, .one (.d (.sl false 119 2 (List.map Arr.c (b))))), (10, .one (.d (.v (.bool ((a.length : Int) != (b.length : Int))))))] []) [⟨[0], some 6, [], []⟩, ⟨[6], some 7, [], []⟩, ⟨[1], some 8, [], []⟩, ⟨[8], some 9, [], []⟩, ⟨[7, 9], some 10, [], []⟩] (fun k4 => ?_) ?_
 ·skip
  refine .move (.no rfl) rfl rfl rfl rfl ?_
  refine .len (.no rfl) rfl (z := (a.length : Int)) t36 rfl rfl rfl (.d _ _) (map_len _ _) rfl ?_
  refine .move (.no rfl) rfl rfl rfl rfl ?_
  refine .len (.no rfl) rfl (z := (b.length : Int)) t36 rfl rfl rfl (.d _ _) (map_len _ _) rfl ?_
  refine .bin (.no rfl) rfl rfl rfl rfl rfl rfl ?_
  exact .fin () (.of (.cons rfl (.cons rfl (.cons rfl .nil))) .nil)
 intro _
 refine .cond (t := (a.length : Int) != (b.length : Int)) rfl (fun c0 => ?_) (fun c0 => ?_)
 ·have c0 := (by simpa using c0 : ¬ ((a.length : Int) = (b.length : Int)))
  refine .seq ?_
  refine .reg (X := Unit) (fun ζ => .of [(4, .one (.d (.v (.bool (false)))))] []) [⟨[], some 4, [], []⟩] (fun k5 => ?_) ?_
  ·skip
   refine .assign (.no rfl) rfl rfl rfl rfl ?_
   exact .fin () (.of (.cons rfl .nil) .nil)
  intro _
  refine .ret ?_
  have e6 : (false) = (all2 Arr.same a b) := by exact (all2_ne _ c0).symm
  have hc7 := eq1 (fun z1 => SV.one (.d (.v (.bool (z1))))) e6
  show _ ∧ _
  exact ⟨.inr rfl, .done ⟨_, [], [], _, .one (c := .d (.v (.bool (all2 Arr.same a b)))) (hc7) .nil, .cons (Reads.d _).gives .nil, nodupB_ok rfl, by simp, (by simp)⟩⟩
 ·have c0 := (by simpa using c0 : (a.length : Int) = (b.length : Int))
  refine .skip ?_
  refine .seq ?_
  refine .seq ?_
  refine .reg (X := Unit) (fun ζ => .of [(0, .one (.d (.sl false 119 2 (List.map Arr.c (a))))), (1, .one (.d (.sl false 119 2 (List.map Arr.c (b))))), (5, .one (.d (.v (.int .i64 (0)))))] []) [⟨[], some 5, [], []⟩] (fun k8 => ?_) ?_
  ·skip
   refine .assign (.no rfl) rfl rfl rfl rfl ?_
   exact .fin () (.of (.cons rfl (.cons rfl (.cons rfl .nil))) .nil)
  intro _
  refine .block ?_
  refine .loop (X := Nat) (fun ζ => .of [(0, .one (.d (.sl false 119 2 (List.map Arr.c (a))))), (1, .one (.d (.sl false 119 2 (List.map Arr.c (b))))), (5, .one (.d (.v (.int .i64 ((ζ : Int))))))] []) (fun ζ => ζ ≤ a.length ∧ a.length = b.length ∧ allTo ζ (fun i => Arr.same (a.getD i default) (b.getD i default)) = true) (fun ζ => a.length - ζ) ?_ ?_
  ·skip
   exact .here 0 (.of (.cons rfl (.cons rfl (.cons (svI (show (0) = ((0 : Int)) by first | rfl | omega | exact wrap_le (by omega) (by omega) | (rw [wrap_le (by omega) (by omega)]; omega))) .nil))) .nil) (show 0 ≤ a.length ∧ a.length = b.length ∧ allTo 0 (fun i => Arr.same (a.getD i default) (b.getD i default)) = true by exact ⟨by omega, by omega, rfl⟩)
  ·rintro j hI
   have hI : j ≤ a.length ∧ a.length = b.length ∧ allTo j (fun i => Arr.same (a.getD i default) (b.getD i default)) = true := hI
   refine .seq ?_
   refine .seq ?_
   refine .reg (X := Unit) (fun ζ => .of [(0, .one (.d (.sl false 119 2 (List.map Arr.c (a))))), (1, .one (.d (.sl false 119 2 (List.map Arr.c (b))))), (5, .one (.d (.v (.int .i64 ((j : Int)))))), (14, .one (.d (.v (.bool (decide ((j : Int) < (a.length : Int)))))))] []) [⟨[5], some 11, [], []⟩, ⟨[0], some 12, [], []⟩, ⟨[12], some 13, [], []⟩, ⟨[11, 13], some 14, [], []⟩] (fun k9 => ?_) ?_
   ·skip
    refine .move (.no rfl) rfl rfl rfl rfl ?_
    refine .move (.no rfl) rfl rfl rfl rfl ?_
    refine .len (.no rfl) rfl (z := (a.length : Int)) t36 rfl rfl rfl (.d _ _) (map_len _ _) rfl ?_
    refine .bin (.no rfl) rfl rfl rfl rfl rfl rfl ?_
    exact .fin () (.of (.cons rfl (.cons rfl (.cons rfl (.cons rfl .nil)))) .nil)
   intro _
   refine .cond (t := decide ((j : Int) < (a.length : Int))) rfl (fun c1 => ?_) (fun c1 => ?_)
   ·have c1 := of_decide_eq_true c1
    refine .skip ?_
    refine .seq ?_
    refine .block ?_
    refine .seq ?_
    refine .regD (X := Unit) (by kernel_rfl) (fun ζ => .of [(0, .one (.d (.sl false 119 2 (List.map Arr.c (a))))), (1, .one (.d (.sl false 119 2 (List.map Arr.c (b))))), (5, .one (.d (.v (.int .i64 ((j : Int)))))), (26, .one (.d (.v (.bool (!(Arr.same (a.getD j default) (b.getD j default)))))))] []) [⟨[0], some 17, [], []⟩, ⟨[5], some 18, [], []⟩, ⟨[17, 18], some 19, [], []⟩, ⟨[19], some 20, [], []⟩, ⟨[1], some 21, [], []⟩, ⟨[5], some 22, [], []⟩, ⟨[21, 22], some 23, [], []⟩, ⟨[23], some 24, [], []⟩, ⟨[20, 24], some 25, [], []⟩, ⟨[25], some 26, [], []⟩] (by kernel_rfl) (fun k10 => ?_) ?_
    ·skip
     refine .move (.no rfl) rfl rfl rfl rfl ?_
     refine .move (.no rfl) rfl rfl rfl rfl ?_
     refine .indexAddr (.no rfl) rfl (j) t36 rfl t119 rfl rfl rfl (.d _ _) rfl rfl rfl (map_get (by omega)) rfl rfl ?_
     refine .load (.no rfl) rfl t119 rfl rfl (.d _) rfl rfl rfl rfl ?_
     refine .move (.no rfl) rfl rfl rfl rfl ?_
     refine .move (.no rfl) rfl rfl rfl rfl ?_
     refine .indexAddr (.no rfl) rfl (j) t36 rfl t119 rfl rfl rfl (.d _ _) rfl rfl rfl (map_get (by omega)) rfl rfl ?_
     refine .load (.no rfl) rfl t119 rfl rfl (.d _) rfl rfl rfl rfl ?_
     refine .call (.no rfl) rfl [] [] (c_eqArr (a.getD j default) (b.getD j default)) rfl rfl rfl rfl rfl (.cons (Reads.d _).gives (.cons (Reads.d _).gives (.cons (Reads.d _).gives (.cons (Reads.d _).gives .nil)))) rfl rfl (fun h => absurd rfl h) (.own [25, 0] .nil) (.nil) rfl rfl rfl (by simp) rfl rfl rfl ?_
     refine .un (.no rfl) rfl rfl rfl rfl rfl ?_
     exact .fin () (.of (.cons rfl (.cons rfl (.cons rfl (.cons rfl .nil)))) .nil)
    intro _
    refine .cond (t := !(Arr.same (a.getD j default) (b.getD j default))) rfl (fun c2 => ?_) (fun c2 => ?_)
    ·have c2 := c2
     try simp only [Bool.or_eq_true, Bool.or_eq_false_iff, Bool.and_eq_true, Bool.and_eq_false_iff, decide_eq_true_eq, decide_eq_false_iff_not, Bool.not_eq_true', Bool.not_eq_false', bne_iff_ne, beq_iff_eq, bne_eq_false_iff_eq, beq_eq_false_iff_ne, ne_eq, Bool.not_eq_eq_eq_not, Bool.not_true, Bool.not_false] at c2
     refine .seq ?_
     refine .reg (X := Unit) (fun ζ => .of [(4, .one (.d (.v (.bool (false)))))] []) [⟨[], some 4, [], []⟩] (fun k11 => ?_) ?_
     ·skip
      refine .assign (.no rfl) rfl rfl rfl rfl ?_
      exact .fin () (.of (.cons rfl .nil) .nil)
     intro _
     refine .ret ?_
     have e12 : (false) = (all2 Arr.same a b) := by exact (all2_fail _ (j := j) (by omega) (by simpa [] using c2)).symm
     have hc13 := eq1 (fun z1 => SV.one (.d (.v (.bool (z1))))) e12
     show _ ∧ _
     exact ⟨.inr rfl, .done ⟨_, [], [], _, .one (c := .d (.v (.bool (all2 Arr.same a b)))) (hc13) .nil, .cons (Reads.d _).gives .nil, nodupB_ok rfl, by simp, (by simp)⟩⟩
    ·have c2 := c2
     try simp only [Bool.or_eq_true, Bool.or_eq_false_iff, Bool.and_eq_true, Bool.and_eq_false_iff, decide_eq_true_eq, decide_eq_false_iff_not, Bool.not_eq_true', Bool.not_eq_false', bne_iff_ne, beq_iff_eq, bne_eq_false_iff_eq, beq_eq_false_iff_ne, ne_eq, Bool.not_eq_eq_eq_not, Bool.not_true, Bool.not_false] at c2
     refine .skip ?_
     refine .reg (X := Unit) (fun ζ => .of [(0, .one (.d (.sl false 119 2 (List.map Arr.c (a))))), (1, .one (.d (.sl false 119 2 (List.map Arr.c (b))))), (5, .one (.d (.v (.int .i64 (IntKind.wrap .i64 ((j : Int) + 1))))))] []) [⟨[5], some 15, [], []⟩, ⟨[15], some 16, [], []⟩, ⟨[16], some 5, [], []⟩] (fun k14 => ?_) ?_
     ·skip
      refine .move (.no rfl) rfl rfl rfl rfl ?_
      refine .bin (.no rfl) rfl rfl rfl rfl rfl rfl ?_
      refine .assign (.no rfl) rfl rfl rfl rfl ?_
      exact .fin () (.of (.cons rfl (.cons rfl (.cons rfl .nil))) .nil)
     intro _
     exact .here (j + 1) (.of (.cons rfl (.cons rfl (.cons (svI (show (IntKind.wrap .i64 ((j : Int) + 1)) = (((j + 1) : Int)) by first | rfl | omega | exact wrap_le (by omega) (by omega) | (rw [wrap_le (by omega) (by omega)]; omega))) .nil))) .nil) ⟨(show (j + 1) ≤ a.length ∧ a.length = b.length ∧ allTo (j + 1) (fun i => Arr.same (a.getD i default) (b.getD i default)) = true by exact ⟨by omega, by omega, allTo_step hI.2.2 (by simpa [] using c2)⟩), (show a.length - (j + 1) < a.length - j by omega)⟩
   ·have c1 := of_decide_eq_false c1
    refine .exit ?_
    refine .seq ?_
    refine .reg (X := Unit) (fun ζ => .of [(4, .one (.d (.v (.bool (true)))))] []) [⟨[], some 4, [], []⟩] (fun k15 => ?_) ?_
    ·skip
     refine .assign (.no rfl) rfl rfl rfl rfl ?_
     exact .fin () (.of (.cons rfl .nil) .nil)
    intro _
    refine .ret ?_
    have e16 : (true) = (all2 Arr.same a b) := by (have hj : j = a.length := (by omega); subst hj; exact (all2_done _ hI.2.1 hI.2.2).symm)
    have hc17 := eq1 (fun z1 => SV.one (.d (.v (.bool (z1))))) e16
    show _ ∧ _
    exact ⟨.inr rfl, .done ⟨_, [], [], _, .one (c := .d (.v (.bool (all2 Arr.same a b)))) (hc17) .nil, .cons (Reads.d _).gives .nil, nodupB_ok rfl, by simp, (by simp)⟩⟩
theorem c_eqEnv (a : Env) (b : Env) : Trip Tryz.prog 54 [(true, 3), (true, 3)] (Env.c77 a ++ Env.c77 b) [(false, 1)] [.v (.bool (Env.same a b))] [] := by
 refine Trip.of Tryz.func54 (by decide) (c := _) rfl rfl (shB_ok rfl) (Nat.le_of_ble_eq_true rfl) rfl (AftOk.nil _) ?_
 refine .satA (t := 0) (i := 1) rfl rfl (fun hs1 => ?_)
 have hs1l : a.ints.length ≤ 9223372036854775807 := hs1.maplen
 refine .satA (t := 0) (i := 2) rfl rfl (fun hs2 => ?_)
 have hs2l : a.arrs.length ≤ 9223372036854775807 := hs2.maplen
 refine .satA (t := 1) (i := 1) rfl rfl (fun hs3 => ?_)
 have hs3l : b.ints.length ≤ 9223372036854775807 := hs3.maplen
 refine .satA (t := 1) (i := 2) rfl rfl (fun hs4 => ?_)
 have hs4l : b.arrs.length ≤ 9223372036854775807 := hs4.maplen
 refine .seq ?_
 refine .reg (X := Nat × Nat) (fun ζ => .of [(2, .one (.ptr [2] (ζ.1) 0)), (3, .one (.ptr [3] (ζ.2) 0))] [([2], (ζ.1, ζ.1, .box [.d (.v (.bool (a.live))), .d (.sl false 122 2 (List.map Iv.c (a.ints))), .d (.sl false 122 2 (List.map Iv.c (a.arrs)))])), ([3], (ζ.2, ζ.2, .box [.d (.v (.bool (b.live))), .d (.sl false 122 2 (List.map Iv.c (b.ints))), .d (.sl false 122 2 (List.map Iv.c (b.arrs)))]))]) [⟨[0], some 2, [], [[2]]⟩, ⟨[1], some 3, [], [[3]]⟩, ⟨[], some 4, [], []⟩] (fun k5 => ?_) ?_
 ·skip
  refine .box (.no rfl) rfl rfl rfl rfl rfl ?_
  refine .box (.no rfl) rfl rfl rfl rfl rfl ?_
  refine .assign (.no rfl) rfl rfl rfl rfl ?_
  exact .fin (k5, k5 + 1) (.of (.cons rfl (.cons rfl .nil)) (.cons rfl (.cons rfl .nil)))
 rintro ⟨g6, g7⟩
 refine .seq ?_
 refine .seq ?_
 refine .reg (X := Unit) (fun ζ => .of [(2, .one (.ptr [2] (g6) 0)), (3, .one (.ptr [3] (g7) 0)), (9, .one (.d (.v (.bool (a.live != b.live)))))] [([2], (g6, g6, .box [.d (.v (.bool (a.live))), .d (.sl false 122 2 (List.map Iv.c (a.ints))), .d (.sl false 122 2 (List.map Iv.c (a.arrs)))])), ([3], (g7, g7, .box [.d (.v (.bool (b.live))), .d (.sl false 122 2 (List.map Iv.c (b.ints))), .d (.sl false 122 2 (List.map Iv.c (b.arrs)))]))]) [⟨[2], some 5, [], []⟩, ⟨[5], some 6, [[2]], []⟩, ⟨[3], some 7, [], []⟩, ⟨[7], some 8, [[3]], []⟩, ⟨[6, 8], some 9, [], []⟩] (fun k8 => ?_) ?_
 ·skip
  refine .fieldAddrP (.no rfl) rfl t77 rfl rfl t4 rfl rfl rfl rfl ?_
  refine .load (.no rfl) rfl t4 rfl rfl (.ptr _ _ _ _ _ rfl) rfl rfl rfl rfl ?_
  refine .fieldAddrP (.no rfl) rfl t77 rfl rfl t4 rfl rfl rfl rfl ?_
  refine .load (.no rfl) rfl t4 rfl rfl (.ptr _ _ _ _ _ rfl) rfl rfl rfl rfl ?_
  refine .neB (.no rfl) rfl t4 rfl rfl rfl rfl rfl ?_
  exact .fin () (.of (.cons rfl (.cons rfl (.cons rfl .nil))) (.cons rfl (.cons rfl .nil)))
 intro _
 refine .cond (t := a.live != b.live) rfl (fun c0 => ?_) (fun c0 => ?_)
 ·have c0 := (by simpa using c0 : ¬ (a.live = b.live))
  refine .seq ?_
  refine .reg (X := Unit) (fun ζ => .of [(4, .one (.d (.v (.bool (false)))))] []) [⟨[], some 4, [], []⟩] (fun k9 => ?_) ?_
  ·skip
   refine .assign (.no rfl) rfl rfl rfl rfl ?_
   exact .fin () (.of (.cons rfl .nil) .nil)
  intro _
  refine .ret ?_
  have e10 : (false) = (Env.same a b) := by (simp_all [Env.same])
  have hc11 := eq1 (fun z1 => SV.one (.d (.v (.bool (z1))))) e10
  show _ ∧ _
  exact ⟨.inr rfl, .done ⟨_, [], [], _, .one (c := .d (.v (.bool (Env.same a b)))) (hc11) .nil, .cons (Reads.d _).gives .nil, nodupB_ok rfl, by simp, (by simp)⟩⟩
 ·have c0 := (by simpa using c0 : a.live = b.live)
  refine .skip ?_
  refine .seq ?_
  refine .seq ?_
  refine .reg (X := Unit) (fun ζ => .of [(2, .one (.ptr [2] (g6) 0)), (3, .one (.ptr [3] (g7) 0)), (15, .one (.d (.v (.bool (!(all2 Iv.same a.ints b.ints))))))] [([2], (g6, g6, .box [.d (.v (.bool (a.live))), .d (.sl false 122 2 (List.map Iv.c (a.ints))), .d (.sl false 122 2 (List.map Iv.c (a.arrs)))])), ([3], (g7, g7, .box [.d (.v (.bool (b.live))), .d (.sl false 122 2 (List.map Iv.c (b.ints))), .d (.sl false 122 2 (List.map Iv.c (b.arrs)))]))]) [⟨[2], some 10, [], []⟩, ⟨[10], some 11, [[2]], []⟩, ⟨[3], some 12, [], []⟩, ⟨[12], some 13, [[3]], []⟩, ⟨[11, 13], some 14, [], []⟩, ⟨[14], some 15, [], []⟩] (fun k12 => ?_) ?_
  ·skip
   refine .fieldAddrP (.no rfl) rfl t77 rfl rfl t75 rfl rfl rfl rfl ?_
   refine .load (.no rfl) rfl t75 rfl rfl (.ptr _ _ _ _ _ rfl) rfl rfl rfl rfl ?_
   refine .fieldAddrP (.no rfl) rfl t77 rfl rfl t75 rfl rfl rfl rfl ?_
   refine .load (.no rfl) rfl t75 rfl rfl (.ptr _ _ _ _ _ rfl) rfl rfl rfl rfl ?_
   refine .call (.no rfl) rfl [] [] (c_eqIntervalS a.ints b.ints) rfl rfl rfl rfl rfl (.cons (Reads.d _).gives (.cons (Reads.d _).gives .nil)) rfl rfl (fun h => absurd rfl h) (.own [14, 0] .nil) (.nil) rfl rfl rfl (by simp) rfl rfl rfl ?_
   refine .un (.no rfl) rfl rfl rfl rfl rfl ?_
   exact .fin () (.of (.cons rfl (.cons rfl (.cons rfl .nil))) (.cons rfl (.cons rfl .nil)))
  intro _
  refine .cond (t := !(all2 Iv.same a.ints b.ints)) rfl (fun c1 => ?_) (fun c1 => ?_)
  ·have c1 := c1
   try simp only [Bool.or_eq_true, Bool.or_eq_false_iff, Bool.and_eq_true, Bool.and_eq_false_iff, decide_eq_true_eq, decide_eq_false_iff_not, Bool.not_eq_true', Bool.not_eq_false', bne_iff_ne, beq_iff_eq, bne_eq_false_iff_eq, beq_eq_false_iff_ne, ne_eq, Bool.not_eq_eq_eq_not, Bool.not_true, Bool.not_false] at c1
   refine .seq ?_
   refine .reg (X := Unit) (fun ζ => .of [(4, .one (.d (.v (.bool (false)))))] []) [⟨[], some 4, [], []⟩] (fun k13 => ?_) ?_
   ·skip
    refine .assign (.no rfl) rfl rfl rfl rfl ?_
    exact .fin () (.of (.cons rfl .nil) .nil)
   intro _
   refine .ret ?_
   have e14 : (false) = (Env.same a b) := by (simp_all [Env.same])
   have hc15 := eq1 (fun z1 => SV.one (.d (.v (.bool (z1))))) e14
   show _ ∧ _
   exact ⟨.inr rfl, .done ⟨_, [], [], _, .one (c := .d (.v (.bool (Env.same a b)))) (hc15) .nil, .cons (Reads.d _).gives .nil, nodupB_ok rfl, by simp, (by simp)⟩⟩
  ·have c1 := c1
   try simp only [Bool.or_eq_true, Bool.or_eq_false_iff, Bool.and_eq_true, Bool.and_eq_false_iff, decide_eq_true_eq, decide_eq_false_iff_not, Bool.not_eq_true', Bool.not_eq_false', bne_iff_ne, beq_iff_eq, bne_eq_false_iff_eq, beq_eq_false_iff_ne, ne_eq, Bool.not_eq_eq_eq_not, Bool.not_true, Bool.not_false] at c1
   refine .skip ?_
   refine .seq ?_
   refine .seq ?_
   refine .reg (X := Unit) (fun ζ => .of [(21, .one (.d (.v (.bool (!(all2 Iv.same a.arrs b.arrs))))))] []) [⟨[2], some 16, [], []⟩, ⟨[16], some 17, [[2]], []⟩, ⟨[3], some 18, [], []⟩, ⟨[18], some 19, [[3]], []⟩, ⟨[17, 19], some 20, [], []⟩, ⟨[20], some 21, [], []⟩] (fun k16 => ?_) ?_
   ·skip
    refine .fieldAddrP (.no rfl) rfl t77 rfl rfl t75 rfl rfl rfl rfl ?_
    refine .load (.no rfl) rfl t75 rfl rfl (.ptr _ _ _ _ _ rfl) rfl rfl rfl rfl ?_
    refine .fieldAddrP (.no rfl) rfl t77 rfl rfl t75 rfl rfl rfl rfl ?_
    refine .load (.no rfl) rfl t75 rfl rfl (.ptr _ _ _ _ _ rfl) rfl rfl rfl rfl ?_
    refine .call (.no rfl) rfl [] [] (c_eqIntervalS a.arrs b.arrs) rfl rfl rfl rfl rfl (.cons (Reads.d _).gives (.cons (Reads.d _).gives .nil)) rfl rfl (fun h => absurd rfl h) (.own [20, 0] .nil) (.nil) rfl rfl rfl (by simp) rfl rfl rfl ?_
    refine .un (.no rfl) rfl rfl rfl rfl rfl ?_
    exact .fin () (.of (.cons rfl .nil) .nil)
   intro _
   refine .cond (t := !(all2 Iv.same a.arrs b.arrs)) rfl (fun c2 => ?_) (fun c2 => ?_)
   ·have c2 := c2
    try simp only [Bool.or_eq_true, Bool.or_eq_false_iff, Bool.and_eq_true, Bool.and_eq_false_iff, decide_eq_true_eq, decide_eq_false_iff_not, Bool.not_eq_true', Bool.not_eq_false', bne_iff_ne, beq_iff_eq, bne_eq_false_iff_eq, beq_eq_false_iff_ne, ne_eq, Bool.not_eq_eq_eq_not, Bool.not_true, Bool.not_false] at c2
    refine .seq ?_
    refine .reg (X := Unit) (fun ζ => .of [(4, .one (.d (.v (.bool (false)))))] []) [⟨[], some 4, [], []⟩] (fun k17 => ?_) ?_
    ·skip
     refine .assign (.no rfl) rfl rfl rfl rfl ?_
     exact .fin () (.of (.cons rfl .nil) .nil)
    intro _
    refine .ret ?_
    have e18 : (false) = (Env.same a b) := by (simp_all [Env.same])
    have hc19 := eq1 (fun z1 => SV.one (.d (.v (.bool (z1))))) e18
    show _ ∧ _
    exact ⟨.inr rfl, .done ⟨_, [], [], _, .one (c := .d (.v (.bool (Env.same a b)))) (hc19) .nil, .cons (Reads.d _).gives .nil, nodupB_ok rfl, by simp, (by simp)⟩⟩
   ·have c2 := c2
    try simp only [Bool.or_eq_true, Bool.or_eq_false_iff, Bool.and_eq_true, Bool.and_eq_false_iff, decide_eq_true_eq, decide_eq_false_iff_not, Bool.not_eq_true', Bool.not_eq_false', bne_iff_ne, beq_iff_eq, bne_eq_false_iff_eq, beq_eq_false_iff_ne, ne_eq, Bool.not_eq_eq_eq_not, Bool.not_true, Bool.not_false] at c2
    refine .skip ?_
    refine .seq ?_
    refine .reg (X := Unit) (fun ζ => .of [(4, .one (.d (.v (.bool (true)))))] []) [⟨[], some 4, [], []⟩] (fun k20 => ?_) ?_
    ·skip
     refine .assign (.no rfl) rfl rfl rfl rfl ?_
     exact .fin () (.of (.cons rfl .nil) .nil)
    intro _
    refine .ret ?_
    have e21 : (true) = (Env.same a b) := by (simp_all [Env.same])
    have hc22 := eq1 (fun z1 => SV.one (.d (.v (.bool (z1))))) e21
    show _ ∧ _
    exact ⟨.inr rfl, .done ⟨_, [], [], _, .one (c := .d (.v (.bool (Env.same a b)))) (hc22) .nil, .cons (Reads.d _).gives .nil, nodupB_ok rfl, by simp, (by simp)⟩⟩
theorem c_eqDecl (a : Decl) (b : Decl) : Trip Tryz.prog 15 [(true, 3), (true, 3)] (Decl.c38 a ++ Decl.c38 b) [(false, 1)] [.v (.bool (Decl.same a b))] [] := by
 refine Trip.of Tryz.func15 (by decide) (c := _) rfl rfl (shB_ok rfl) (Nat.le_of_ble_eq_true rfl) rfl (AftOk.nil _) ?_
 refine .satA (t := 0) (i := 0) rfl rfl (fun hs1 => ?_)
 have hs1l : a.vars.length ≤ 9223372036854775807 := hs1.maplen
 refine .satA (t := 0) (i := 1) rfl rfl (fun hs2 => ?_)
 have hs2l : a.flags.length ≤ 9223372036854775807 := hs2.maplen
 refine .satA (t := 0) (i := 2) rfl rfl (fun hs3 => ?_)
 have hs3l : a.arrays.length ≤ 9223372036854775807 := hs3.maplen
 refine .satA (t := 1) (i := 0) rfl rfl (fun hs4 => ?_)
 have hs4l : b.vars.length ≤ 9223372036854775807 := hs4.maplen
 refine .satA (t := 1) (i := 1) rfl rfl (fun hs5 => ?_)
 have hs5l : b.flags.length ≤ 9223372036854775807 := hs5.maplen
 refine .satA (t := 1) (i := 2) rfl rfl (fun hs6 => ?_)
 have hs6l : b.arrays.length ≤ 9223372036854775807 := hs6.maplen
 refine .seq ?_
 refine .reg (X := Nat × Nat) (fun ζ => .of [(2, .one (.ptr [2] (ζ.1) 0)), (3, .one (.ptr [3] (ζ.2) 0))] [([2], (ζ.1, ζ.1, .box [.d (.sl false 9 1 (List.map strc (a.vars))), .d (.sl false 9 1 (List.map strc (a.flags))), .d (.sl false 119 2 (List.map Arr.c (a.arrays)))])), ([3], (ζ.2, ζ.2, .box [.d (.sl false 9 1 (List.map strc (b.vars))), .d (.sl false 9 1 (List.map strc (b.flags))), .d (.sl false 119 2 (List.map Arr.c (b.arrays)))]))]) [⟨[0], some 2, [], [[2]]⟩, ⟨[1], some 3, [], [[3]]⟩, ⟨[], some 4, [], []⟩] (fun k7 => ?_) ?_
 ·skip
  refine .box (.no rfl) rfl rfl rfl rfl rfl ?_
  refine .box (.no rfl) rfl rfl rfl rfl rfl ?_
  refine .assign (.no rfl) rfl rfl rfl rfl ?_
  exact .fin (k7, k7 + 1) (.of (.cons rfl (.cons rfl .nil)) (.cons rfl (.cons rfl .nil)))
 rintro ⟨g8, g9⟩
 refine .seq ?_
 refine .seq ?_
 refine .reg (X := Unit) (fun ζ => .of [(2, .one (.ptr [2] (g8) 0)), (3, .one (.ptr [3] (g9) 0)), (10, .one (.d (.v (.bool (!(all2 strEq a.vars b.vars))))))] [([2], (g8, g8, .box [.d (.sl false 9 1 (List.map strc (a.vars))), .d (.sl false 9 1 (List.map strc (a.flags))), .d (.sl false 119 2 (List.map Arr.c (a.arrays)))])), ([3], (g9, g9, .box [.d (.sl false 9 1 (List.map strc (b.vars))), .d (.sl false 9 1 (List.map strc (b.flags))), .d (.sl false 119 2 (List.map Arr.c (b.arrays)))]))]) [⟨[2], some 5, [], []⟩, ⟨[5], some 6, [[2]], []⟩, ⟨[3], some 7, [], []⟩, ⟨[7], some 8, [[3]], []⟩, ⟨[6, 8], some 9, [], []⟩, ⟨[9], some 10, [], []⟩] (fun k10 => ?_) ?_
 ·skip
  refine .fieldAddrP (.no rfl) rfl t38 rfl rfl t22 rfl rfl rfl rfl ?_
  refine .load (.no rfl) rfl t22 rfl rfl (.ptr _ _ _ _ _ rfl) rfl rfl rfl rfl ?_
  refine .fieldAddrP (.no rfl) rfl t38 rfl rfl t22 rfl rfl rfl rfl ?_
  refine .load (.no rfl) rfl t22 rfl rfl (.ptr _ _ _ _ _ rfl) rfl rfl rfl rfl ?_
  refine .call (.no rfl) rfl [] [] (c_eqStringS a.vars b.vars) rfl rfl rfl rfl rfl (.cons (Reads.d _).gives (.cons (Reads.d _).gives .nil)) rfl rfl (fun h => absurd rfl h) (.own [9, 0] .nil) (.nil) rfl rfl rfl (by simp) rfl rfl rfl ?_
  refine .un (.no rfl) rfl rfl rfl rfl rfl ?_
  exact .fin () (.of (.cons rfl (.cons rfl (.cons rfl .nil))) (.cons rfl (.cons rfl .nil)))
 intro _
 refine .cond (t := !(all2 strEq a.vars b.vars)) rfl (fun c0 => ?_) (fun c0 => ?_)
 ·have c0 := c0
  try simp only [Bool.or_eq_true, Bool.or_eq_false_iff, Bool.and_eq_true, Bool.and_eq_false_iff, decide_eq_true_eq, decide_eq_false_iff_not, Bool.not_eq_true', Bool.not_eq_false', bne_iff_ne, beq_iff_eq, bne_eq_false_iff_eq, beq_eq_false_iff_ne, ne_eq, Bool.not_eq_eq_eq_not, Bool.not_true, Bool.not_false] at c0
  refine .seq ?_
  refine .reg (X := Unit) (fun ζ => .of [(4, .one (.d (.v (.bool (false)))))] []) [⟨[], some 4, [], []⟩] (fun k11 => ?_) ?_
  ·skip
   refine .assign (.no rfl) rfl rfl rfl rfl ?_
   exact .fin () (.of (.cons rfl .nil) .nil)
  intro _
  refine .ret ?_
  have e12 : (false) = (Decl.same a b) := by (simp_all [Decl.same])
  have hc13 := eq1 (fun z1 => SV.one (.d (.v (.bool (z1))))) e12
  show _ ∧ _
  exact ⟨.inr rfl, .done ⟨_, [], [], _, .one (c := .d (.v (.bool (Decl.same a b)))) (hc13) .nil, .cons (Reads.d _).gives .nil, nodupB_ok rfl, by simp, (by simp)⟩⟩
 ·have c0 := c0
  try simp only [Bool.or_eq_true, Bool.or_eq_false_iff, Bool.and_eq_true, Bool.and_eq_false_iff, decide_eq_true_eq, decide_eq_false_iff_not, Bool.not_eq_true', Bool.not_eq_false', bne_iff_ne, beq_iff_eq, bne_eq_false_iff_eq, beq_eq_false_iff_ne, ne_eq, Bool.not_eq_eq_eq_not, Bool.not_true, Bool.not_false] at c0
  refine .skip ?_
  refine .seq ?_
  refine .seq ?_
  refine .reg (X := Unit) (fun ζ => .of [(2, .one (.ptr [2] (g8) 0)), (3, .one (.ptr [3] (g9) 0)), (16, .one (.d (.v (.bool (!(all2 strEq a.flags b.flags))))))] [([2], (g8, g8, .box [.d (.sl false 9 1 (List.map strc (a.vars))), .d (.sl false 9 1 (List.map strc (a.flags))), .d (.sl false 119 2 (List.map Arr.c (a.arrays)))])), ([3], (g9, g9, .box [.d (.sl false 9 1 (List.map strc (b.vars))), .d (.sl false 9 1 (List.map strc (b.flags))), .d (.sl false 119 2 (List.map Arr.c (b.arrays)))]))]) [⟨[2], some 11, [], []⟩, ⟨[11], some 12, [[2]], []⟩, ⟨[3], some 13, [], []⟩, ⟨[13], some 14, [[3]], []⟩, ⟨[12, 14], some 15, [], []⟩, ⟨[15], some 16, [], []⟩] (fun k14 => ?_) ?_
  ·skip
   refine .fieldAddrP (.no rfl) rfl t38 rfl rfl t22 rfl rfl rfl rfl ?_
   refine .load (.no rfl) rfl t22 rfl rfl (.ptr _ _ _ _ _ rfl) rfl rfl rfl rfl ?_
   refine .fieldAddrP (.no rfl) rfl t38 rfl rfl t22 rfl rfl rfl rfl ?_
   refine .load (.no rfl) rfl t22 rfl rfl (.ptr _ _ _ _ _ rfl) rfl rfl rfl rfl ?_
   refine .call (.no rfl) rfl [] [] (c_eqStringS a.flags b.flags) rfl rfl rfl rfl rfl (.cons (Reads.d _).gives (.cons (Reads.d _).gives .nil)) rfl rfl (fun h => absurd rfl h) (.own [15, 0] .nil) (.nil) rfl rfl rfl (by simp) rfl rfl rfl ?_
   refine .un (.no rfl) rfl rfl rfl rfl rfl ?_
   exact .fin () (.of (.cons rfl (.cons rfl (.cons rfl .nil))) (.cons rfl (.cons rfl .nil)))
  intro _
  refine .cond (t := !(all2 strEq a.flags b.flags)) rfl (fun c1 => ?_) (fun c1 => ?_)
  ·have c1 := c1
   try simp only [Bool.or_eq_true, Bool.or_eq_false_iff, Bool.and_eq_true, Bool.and_eq_false_iff, decide_eq_true_eq, decide_eq_false_iff_not, Bool.not_eq_true', Bool.not_eq_false', bne_iff_ne, beq_iff_eq, bne_eq_false_iff_eq, beq_eq_false_iff_ne, ne_eq, Bool.not_eq_eq_eq_not, Bool.not_true, Bool.not_false] at c1
   refine .seq ?_
   refine .reg (X := Unit) (fun ζ => .of [(4, .one (.d (.v (.bool (false)))))] []) [⟨[], some 4, [], []⟩] (fun k15 => ?_) ?_
   ·skip
    refine .assign (.no rfl) rfl rfl rfl rfl ?_
    exact .fin () (.of (.cons rfl .nil) .nil)
   intro _
   refine .ret ?_
   have e16 : (false) = (Decl.same a b) := by (simp_all [Decl.same])
   have hc17 := eq1 (fun z1 => SV.one (.d (.v (.bool (z1))))) e16
   show _ ∧ _
   exact ⟨.inr rfl, .done ⟨_, [], [], _, .one (c := .d (.v (.bool (Decl.same a b)))) (hc17) .nil, .cons (Reads.d _).gives .nil, nodupB_ok rfl, by simp, (by simp)⟩⟩
  ·have c1 := c1
   try simp only [Bool.or_eq_true, Bool.or_eq_false_iff, Bool.and_eq_true, Bool.and_eq_false_iff, decide_eq_true_eq, decide_eq_false_iff_not, Bool.not_eq_true', Bool.not_eq_false', bne_iff_ne, beq_iff_eq, bne_eq_false_iff_eq, beq_eq_false_iff_ne, ne_eq, Bool.not_eq_eq_eq_not, Bool.not_true, Bool.not_false] at c1
   refine .skip ?_
   refine .seq ?_
   refine .seq ?_
   refine .reg (X := Unit) (fun ζ => .of [(22, .one (.d (.v (.bool (!(all2 Arr.same a.arrays b.arrays))))))] []) [⟨[2], some 17, [], []⟩, ⟨[17], some 18, [[2]], []⟩, ⟨[3], some 19, [], []⟩, ⟨[19], some 20, [[3]], []⟩, ⟨[18, 20], some 21, [], []⟩, ⟨[21], some 22, [], []⟩] (fun k18 => ?_) ?_
   ·skip
    refine .fieldAddrP (.no rfl) rfl t38 rfl rfl t36 rfl rfl rfl rfl ?_
    refine .load (.no rfl) rfl t36 rfl rfl (.ptr _ _ _ _ _ rfl) rfl rfl rfl rfl ?_
    refine .fieldAddrP (.no rfl) rfl t38 rfl rfl t36 rfl rfl rfl rfl ?_
    refine .load (.no rfl) rfl t36 rfl rfl (.ptr _ _ _ _ _ rfl) rfl rfl rfl rfl ?_
    refine .call (.no rfl) rfl [] [] (c_eqArrS a.arrays b.arrays) rfl rfl rfl rfl rfl (.cons (Reads.d _).gives (.cons (Reads.d _).gives .nil)) rfl rfl (fun h => absurd rfl h) (.own [21, 0] .nil) (.nil) rfl rfl rfl (by simp) rfl rfl rfl ?_
    refine .un (.no rfl) rfl rfl rfl rfl rfl ?_
    exact .fin () (.of (.cons rfl .nil) .nil)
   intro _
   refine .cond (t := !(all2 Arr.same a.arrays b.arrays)) rfl (fun c2 => ?_) (fun c2 => ?_)
   ·have c2 := c2
    try simp only [Bool.or_eq_true, Bool.or_eq_false_iff, Bool.and_eq_true, Bool.and_eq_false_iff, decide_eq_true_eq, decide_eq_false_iff_not, Bool.not_eq_true', Bool.not_eq_false', bne_iff_ne, beq_iff_eq, bne_eq_false_iff_eq, beq_eq_false_iff_ne, ne_eq, Bool.not_eq_eq_eq_not, Bool.not_true, Bool.not_false] at c2
    refine .seq ?_
    refine .reg (X := Unit) (fun ζ => .of [(4, .one (.d (.v (.bool (false)))))] []) [⟨[], some 4, [], []⟩] (fun k19 => ?_) ?_
    ·skip
     refine .assign (.no rfl) rfl rfl rfl rfl ?_
     exact .fin () (.of (.cons rfl .nil) .nil)
    intro _
    refine .ret ?_
    have e20 : (false) = (Decl.same a b) := by (simp_all [Decl.same])
    have hc21 := eq1 (fun z1 => SV.one (.d (.v (.bool (z1))))) e20
    show _ ∧ _
    exact ⟨.inr rfl, .done ⟨_, [], [], _, .one (c := .d (.v (.bool (Decl.same a b)))) (hc21) .nil, .cons (Reads.d _).gives .nil, nodupB_ok rfl, by simp, (by simp)⟩⟩
   ·have c2 := c2
    try simp only [Bool.or_eq_true, Bool.or_eq_false_iff, Bool.and_eq_true, Bool.and_eq_false_iff, decide_eq_true_eq, decide_eq_false_iff_not, Bool.not_eq_true', Bool.not_eq_false', bne_iff_ne, beq_iff_eq, bne_eq_false_iff_eq, beq_eq_false_iff_ne, ne_eq, Bool.not_eq_eq_eq_not, Bool.not_true, Bool.not_false] at c2
    refine .skip ?_
    refine .seq ?_
    refine .reg (X := Unit) (fun ζ => .of [(4, .one (.d (.v (.bool (true)))))] []) [⟨[], some 4, [], []⟩] (fun k22 => ?_) ?_
    ·skip
     refine .assign (.no rfl) rfl rfl rfl rfl ?_
     exact .fin () (.of (.cons rfl .nil) .nil)
    intro _
    refine .ret ?_
    have e23 : (true) = (Decl.same a b) := by (simp_all [Decl.same])
    have hc24 := eq1 (fun z1 => SV.one (.d (.v (.bool (z1))))) e23
    show _ ∧ _
    exact ⟨.inr rfl, .done ⟨_, [], [], _, .one (c := .d (.v (.bool (Decl.same a b)))) (hc24) .nil, .cons (Reads.d _).gives .nil, nodupB_ok rfl, by simp, (by simp)⟩⟩
end Go.Proofs

namespace Go.Proofs
open Go Go.Proofs Go.Ev

theorem c_l1In (n : Int) (lo : Int) (hi : Int) : Trip Tryz.prog 93 [(false, 1), (false, 1), (false, 1)] ([.v (.int .i64 (n))] ++ [.v (.int .i64 (lo))] ++ [.v (.int .i64 (hi))]) [(false, 1)] [.v (.bool (inR n lo hi))] [] := by
 refine Trip.of Tryz.func93 (by decide) (c := _) rfl rfl (shB_ok rfl) (Nat.le_of_ble_eq_true rfl) rfl (AftOk.nil _) ?_
 refine .seq ?_
 refine .reg (X := Unit) (fun ζ => .of [(0, .one (.d (.v (.int .i64 (n))))), (1, .one (.d (.v (.int .i64 (lo))))), (2, .one (.d (.v (.int .i64 (hi)))))] []) [⟨[], some 6, [], []⟩] (fun k1 => ?_) ?_
 ·skip
  refine .assign (.no rfl) rfl rfl rfl rfl ?_
  exact .fin () (.of (.cons rfl (.cons rfl (.cons rfl .nil))) .nil)
 intro _
 refine .seq ?_
 refine .reg (X := Unit) (fun ζ => .of [(6, .one (.d (.v (.bool ((decide (n ≥ lo) && decide (n ≤ hi)))))))] []) [⟨[0], some 7, [], []⟩, ⟨[1], some 8, [], []⟩, ⟨[7, 8], some 9, [], []⟩, ⟨[9], some 10, [], []⟩, ⟨[10, 0], some 11, [], []⟩, ⟨[10, 2], some 12, [], []⟩, ⟨[10, 11, 12], some 13, [], []⟩, ⟨[10, 13], some 14, [], []⟩, ⟨[14], some 6, [], []⟩] (fun k2 => ?_) ?_
 ·skip
  refine .move (.no rfl) rfl rfl rfl rfl ?_
  refine .move (.no rfl) rfl rfl rfl rfl ?_
  refine .bin (.no rfl) rfl rfl rfl rfl rfl rfl ?_
  refine .moveB (.no rfl) rfl rfl rfl rfl fun b3 g1_3 => ?_
  cases b3
  ·skip
   refine .off rfl rfl rfl rfl rfl rfl rfl ?_
   refine .off rfl rfl rfl rfl rfl rfl rfl ?_
   refine .off rfl rfl rfl rfl rfl rfl rfl ?_
   refine .pick (.no rfl) rfl rfl rfl rfl rfl ?_
   refine .assign (.no rfl) rfl rfl rfl rfl ?_
   exact .fin () (.of (.cons (svB (show (false) = ((decide (n ≥ lo) && decide (n ≤ hi))) by first | (simp only [g1_3, Bool.true_or, Bool.false_or, Bool.true_and, Bool.false_and, Bool.not_true, Bool.not_false]; done) | simp [g1_3])) .nil) .nil)
  ·skip
   refine .move (.on rfl rfl rfl rfl rfl) rfl rfl rfl rfl ?_
   refine .move (.on rfl rfl rfl rfl rfl) rfl rfl rfl rfl ?_
   refine .bin (.on rfl rfl rfl rfl rfl) rfl rfl rfl rfl rfl rfl ?_
   refine .pick (.no rfl) rfl rfl rfl rfl rfl ?_
   refine .assign (.no rfl) rfl rfl rfl rfl ?_
   exact .fin () (.of (.cons (svB (show (decide (n ≤ hi)) = ((decide (n ≥ lo) && decide (n ≤ hi))) by first | (simp only [g1_3, Bool.true_or, Bool.false_or, Bool.true_and, Bool.false_and, Bool.not_true, Bool.not_false]; done) | simp [g1_3])) .nil) .nil)
 intro _
 refine .ret ?_
 have e4 : ((decide (n ≥ lo) && decide (n ≤ hi))) = (inR n lo hi) := by (first | rfl | simp_all [inR])
 have hc5 := eq1 (fun z1 => SV.one (.d (.v (.bool (z1))))) e4
 show _ ∧ _
 exact ⟨.inr rfl, .done ⟨_, [], [], _, .one (c := .d (.v (.bool (inR n lo hi)))) (hc5) .nil, .cons (Reads.d _).gives .nil, nodupB_ok rfl, by simp, (by simp)⟩⟩
theorem c_sIvOk (a : Iv) : Trip Tryz.prog 117 [(true, 2)] (Iv.c a) [(false, 1)] [.v (.bool (Iv.ok a))] [] := by
 refine Trip.of Tryz.func117 (by decide) (c := _) rfl rfl (shB_ok rfl) (Nat.le_of_ble_eq_true rfl) rfl (AftOk.nil _) ?_
 refine .seq ?_
 refine .reg (X := Nat) (fun ζ => .of [(1, .one (.ptr [1] (ζ) 0))] [([1], (ζ, ζ, .box [.d (.v (.int .i64 (a.lo))), .d (.v (.int .i64 (a.hi)))]))]) [⟨[0], some 1, [], [[1]]⟩, ⟨[], some 2, [], []⟩] (fun k1 => ?_) ?_
 ·skip
  refine .box (.no rfl) rfl rfl rfl rfl rfl ?_
  refine .assign (.no rfl) rfl rfl rfl rfl ?_
  exact .fin k1 (.of (.cons rfl .nil) (.cons rfl .nil))
 intro g2
 refine .seq ?_
 refine .reg (X := Unit) (fun ζ => .of [(2, .one (.d (.v (.bool (decide (a.lo ≤ a.hi))))))] []) [⟨[1], some 3, [], []⟩, ⟨[3], some 4, [[1]], []⟩, ⟨[1], some 5, [], []⟩, ⟨[5], some 6, [[1]], []⟩, ⟨[4, 6], some 7, [], []⟩, ⟨[7], some 2, [], []⟩] (fun k3 => ?_) ?_
 ·skip
  refine .fieldAddrP (.no rfl) rfl t122 rfl rfl t2 rfl rfl rfl rfl ?_
  refine .load (.no rfl) rfl t2 rfl rfl (.ptr _ _ _ _ _ rfl) rfl rfl rfl rfl ?_
  refine .fieldAddrP (.no rfl) rfl t122 rfl rfl t2 rfl rfl rfl rfl ?_
  refine .load (.no rfl) rfl t2 rfl rfl (.ptr _ _ _ _ _ rfl) rfl rfl rfl rfl ?_
  refine .bin (.no rfl) rfl rfl rfl rfl rfl rfl ?_
  refine .assign (.no rfl) rfl rfl rfl rfl ?_
  exact .fin () (.of (.cons rfl .nil) .nil)
 intro _
 refine .ret ?_
 have e4 : (decide (a.lo ≤ a.hi)) = (Iv.ok a) := by rfl
 have hc5 := eq1 (fun z1 => SV.one (.d (.v (.bool (z1))))) e4
 show _ ∧ _
 exact ⟨.inr rfl, .done ⟨_, [], [], _, .one (c := .d (.v (.bool (Iv.ok a)))) (hc5) .nil, .cons (Reads.d _).gives .nil, nodupB_ok rfl, by simp, (by simp)⟩⟩
theorem c_l3Key (s : ByteArray) : Trip Tryz.prog 126 [(false, 1)] ([.v (.string (s))]) [(false, 1)] [.v (.bool (isKey s))] [] := by
 refine Trip.of Tryz.func126 (by decide) (c := _) rfl rfl (shB_ok rfl) (Nat.le_of_ble_eq_true rfl) rfl (AftOk.nil _) ?_
 refine .seq ?_
 refine .reg (X := Unit) (fun ζ => .of [(0, .one (.d (.v (.string (s)))))] []) [⟨[], some 2, [], []⟩] (fun k1 => ?_) ?_
 ·skip
  refine .assign (.no rfl) rfl rfl rfl rfl ?_
  exact .fin () (.of (.cons rfl .nil) .nil)
 intro _
 refine .seq ?_
 refine .reg (X := Nat) (fun ζ => .of [(0, .one (.d (.v (.string (s))))), (3, .one (.ref [5] (ζ)))] [([5], (ζ, ζ, .row 9 1 ([[.v (.string ((⟨#[118, 97, 114]⟩ : ByteArray)))], [.v (.string ((⟨#[102, 108, 97, 103]⟩ : ByteArray)))], [.v (.string ((⟨#[97, 114, 114, 97, 121]⟩ : ByteArray)))], [.v (.string ((⟨#[105, 102]⟩ : ByteArray)))], [.v (.string ((⟨#[102, 111, 114, 107]⟩ : ByteArray)))], [.v (.string ((⟨#[101, 108, 115, 101]⟩ : ByteArray)))], [.v (.string ((⟨#[101, 110, 100]⟩ : ByteArray)))], [.v (.string ((⟨#[119, 104, 105, 108, 101]⟩ : ByteArray)))], [.v (.string ((⟨#[117, 110, 114, 111, 108, 108]⟩ : ByteArray)))], [.v (.string ((⟨#[97, 115, 115, 101, 114, 116]⟩ : ByteArray)))], [.v (.string ((⟨#[97, 115, 115, 117, 109, 101]⟩ : ByteArray)))], [.v (.string ((⟨#[105, 110, 112, 117, 116]⟩ : ByteArray)))], [.v (.string ((⟨#[115, 112, 108, 105, 116]⟩ : ByteArray)))], [.v (.string ((⟨#[109, 101, 114, 103, 101]⟩ : ByteArray)))], [.v (.string ((⟨#[116, 114, 117, 101]⟩ : ByteArray)))], [.v (.string ((⟨#[102, 97, 108, 115, 101]⟩ : ByteArray)))]])))]) [⟨[], some 5, [], [[5]]⟩, ⟨[5], some 3, [], []⟩] (fun k2 => ?_) ?_
 ·skip
  refine .buildSlice (.no rfl) rfl (els := [[.v (.string ((⟨#[118, 97, 114]⟩ : ByteArray)))], [.v (.string ((⟨#[102, 108, 97, 103]⟩ : ByteArray)))], [.v (.string ((⟨#[97, 114, 114, 97, 121]⟩ : ByteArray)))], [.v (.string ((⟨#[105, 102]⟩ : ByteArray)))], [.v (.string ((⟨#[102, 111, 114, 107]⟩ : ByteArray)))], [.v (.string ((⟨#[101, 108, 115, 101]⟩ : ByteArray)))], [.v (.string ((⟨#[101, 110, 100]⟩ : ByteArray)))], [.v (.string ((⟨#[119, 104, 105, 108, 101]⟩ : ByteArray)))], [.v (.string ((⟨#[117, 110, 114, 111, 108, 108]⟩ : ByteArray)))], [.v (.string ((⟨#[97, 115, 115, 101, 114, 116]⟩ : ByteArray)))], [.v (.string ((⟨#[97, 115, 115, 117, 109, 101]⟩ : ByteArray)))], [.v (.string ((⟨#[105, 110, 112, 117, 116]⟩ : ByteArray)))], [.v (.string ((⟨#[115, 112, 108, 105, 116]⟩ : ByteArray)))], [.v (.string ((⟨#[109, 101, 114, 103, 101]⟩ : ByteArray)))], [.v (.string ((⟨#[116, 114, 117, 101]⟩ : ByteArray)))], [.v (.string ((⟨#[102, 97, 108, 115, 101]⟩ : ByteArray)))]]) t22 rfl z9 rfl rfl rfl rfl rfl rfl rfl rfl (by simp [i9]) (.cons _ _ _ _ _ _ (.d _) (.cons _ _ _ _ _ _ (.d _) (.cons _ _ _ _ _ _ (.d _) (.cons _ _ _ _ _ _ (.d _) (.cons _ _ _ _ _ _ (.d _) (.cons _ _ _ _ _ _ (.d _) (.cons _ _ _ _ _ _ (.d _) (.cons _ _ _ _ _ _ (.d _) (.cons _ _ _ _ _ _ (.d _) (.cons _ _ _ _ _ _ (.d _) (.cons _ _ _ _ _ _ (.d _) (.cons _ _ _ _ _ _ (.d _) (.cons _ _ _ _ _ _ (.d _) (.cons _ _ _ _ _ _ (.d _) (.cons _ _ _ _ _ _ (.d _) (.cons _ _ _ _ _ _ (.d _) .nil)))))))))))))))) rfl rfl rfl ?_
  refine .assign (.no rfl) rfl rfl rfl rfl ?_
  exact .fin k2 (.of (.cons rfl (.cons rfl .nil)) (.cons rfl .nil))
 intro g3
 refine .seq ?_
 refine .seq ?_
 refine .reg (X := Unit) (fun ζ => .of [(0, .one (.d (.v (.string (s))))), (3, .one (.ref [5] (g3))), (4, .one (.d (.v (.int .i64 (0)))))] [([5], (g3, g3, .row 9 1 ([[.v (.string ((⟨#[118, 97, 114]⟩ : ByteArray)))], [.v (.string ((⟨#[102, 108, 97, 103]⟩ : ByteArray)))], [.v (.string ((⟨#[97, 114, 114, 97, 121]⟩ : ByteArray)))], [.v (.string ((⟨#[105, 102]⟩ : ByteArray)))], [.v (.string ((⟨#[102, 111, 114, 107]⟩ : ByteArray)))], [.v (.string ((⟨#[101, 108, 115, 101]⟩ : ByteArray)))], [.v (.string ((⟨#[101, 110, 100]⟩ : ByteArray)))], [.v (.string ((⟨#[119, 104, 105, 108, 101]⟩ : ByteArray)))], [.v (.string ((⟨#[117, 110, 114, 111, 108, 108]⟩ : ByteArray)))], [.v (.string ((⟨#[97, 115, 115, 101, 114, 116]⟩ : ByteArray)))], [.v (.string ((⟨#[97, 115, 115, 117, 109, 101]⟩ : ByteArray)))], [.v (.string ((⟨#[105, 110, 112, 117, 116]⟩ : ByteArray)))], [.v (.string ((⟨#[115, 112, 108, 105, 116]⟩ : ByteArray)))], [.v (.string ((⟨#[109, 101, 114, 103, 101]⟩ : ByteArray)))], [.v (.string ((⟨#[116, 114, 117, 101]⟩ : ByteArray)))], [.v (.string ((⟨#[102, 97, 108, 115, 101]⟩ : ByteArray)))]])))]) [⟨[], some 4, [], []⟩] (fun k4 => ?_) ?_
 ·skip
  refine .assign (.no rfl) rfl rfl rfl rfl ?_
  exact .fin () (.of (.cons rfl (.cons rfl (.cons rfl .nil))) (.cons rfl .nil))
 intro _
 refine .block ?_
 refine .loop (X := Nat × Nat × Nat) (fun ζ => .of [(0, .one (.d (.v (.string (s))))), (3, .one (.ref [5] (ζ.2.1))), (4, .one (.d (.v (.int .i64 ((ζ.1 : Int))))))] [([5], (ζ.2.1, ζ.2.2, .row 9 1 (List.map strc (keys))))]) (fun ζ => ζ.1 ≤ keys.length ∧ allTo ζ.1 (fun i => !strEq (keys.getD i default) s) = true) (fun ζ => keys.length - ζ.1) ?_ ?_
 ·skip
  exact .here (0, g3, g3) (.of (.cons rfl (.cons rfl (.cons (svI (show (0) = ((0 : Int)) by first | rfl | omega | exact wrap_le (by omega) (by omega) | (rw [wrap_le (by omega) (by omega)]; omega))) .nil))) (.cons (rowE (show [[.v (.string ((⟨#[118, 97, 114]⟩ : ByteArray)))], [.v (.string ((⟨#[102, 108, 97, 103]⟩ : ByteArray)))], [.v (.string ((⟨#[97, 114, 114, 97, 121]⟩ : ByteArray)))], [.v (.string ((⟨#[105, 102]⟩ : ByteArray)))], [.v (.string ((⟨#[102, 111, 114, 107]⟩ : ByteArray)))], [.v (.string ((⟨#[101, 108, 115, 101]⟩ : ByteArray)))], [.v (.string ((⟨#[101, 110, 100]⟩ : ByteArray)))], [.v (.string ((⟨#[119, 104, 105, 108, 101]⟩ : ByteArray)))], [.v (.string ((⟨#[117, 110, 114, 111, 108, 108]⟩ : ByteArray)))], [.v (.string ((⟨#[97, 115, 115, 101, 114, 116]⟩ : ByteArray)))], [.v (.string ((⟨#[97, 115, 115, 117, 109, 101]⟩ : ByteArray)))], [.v (.string ((⟨#[105, 110, 112, 117, 116]⟩ : ByteArray)))], [.v (.string ((⟨#[115, 112, 108, 105, 116]⟩ : ByteArray)))], [.v (.string ((⟨#[109, 101, 114, 103, 101]⟩ : ByteArray)))], [.v (.string ((⟨#[116, 114, 117, 101]⟩ : ByteArray)))], [.v (.string ((⟨#[102, 97, 108, 115, 101]⟩ : ByteArray)))]] = List.map strc (keys) by rfl)) .nil)) (show 0 ≤ keys.length ∧ allTo 0 (fun i => !strEq (keys.getD i default) s) = true by exact ⟨by omega, rfl⟩)
 ·rintro ⟨j, q5, q6⟩ hI
  have hI : j ≤ keys.length ∧ allTo j (fun i => !strEq (keys.getD i default) s) = true := hI
  have hk9 : keys.length = 16 := rfl
  refine .seq ?_
  refine .seq ?_
  refine .reg (X := Unit) (fun ζ => .of [(0, .one (.d (.v (.string (s))))), (3, .one (.ref [5] (q5))), (4, .one (.d (.v (.int .i64 ((j : Int)))))), (9, .one (.d (.v (.bool (decide ((j : Int) < (keys.length : Int)))))))] [([5], (q5, q6, .row 9 1 (List.map strc (keys))))]) [⟨[4], some 6, [], []⟩, ⟨[3], some 7, [], []⟩, ⟨[7], some 8, [[5]], []⟩, ⟨[6, 8], some 9, [], []⟩] (fun k7 => ?_) ?_
  ·skip
   refine .move (.no rfl) rfl rfl rfl rfl ?_
   refine .move (.no rfl) rfl rfl rfl rfl ?_
   refine .len (.no rfl) rfl (z := (keys.length : Int)) t22 rfl rfl rfl (.ref _ _ _ _ _ rfl) (map_len _ _) rfl ?_
   refine .bin (.no rfl) rfl rfl rfl rfl rfl rfl ?_
   exact .fin () (.of (.cons rfl (.cons rfl (.cons rfl (.cons rfl .nil)))) (.cons rfl .nil))
  intro _
  refine .cond (t := decide ((j : Int) < (keys.length : Int))) rfl (fun c0 => ?_) (fun c0 => ?_)
  ·have c0 := of_decide_eq_true c0
   refine .skip ?_
   refine .seq ?_
   refine .block ?_
   refine .seq ?_
   refine .reg (X := Unit) (fun ζ => .of [(0, .one (.d (.v (.string (s))))), (3, .one (.ref [5] (q5))), (4, .one (.d (.v (.int .i64 ((j : Int)))))), (17, .one (.d (.v (.bool ((keys.getD j default).toList == s.toList)))))] [([5], (q5, q6, .row 9 1 (List.map strc (keys))))]) [⟨[3], some 12, [], []⟩, ⟨[4], some 13, [], []⟩, ⟨[12, 13], some 14, [[5]], []⟩, ⟨[14], some 15, [[5]], []⟩, ⟨[0], some 16, [], []⟩, ⟨[15, 16], some 17, [], []⟩] (fun k8 => ?_) ?_
   ·skip
    refine .move (.no rfl) rfl rfl rfl rfl ?_
    refine .move (.no rfl) rfl rfl rfl rfl ?_
    refine .indexAddr (.no rfl) rfl (j) t22 rfl t9 rfl rfl rfl (.ref _ _ _ _ _ rfl) rfl rfl rfl (map_get (by omega)) rfl rfl ?_
    refine .load (.no rfl) rfl t9 rfl rfl (.eptr _ _ _ _ _ _ _ _ _ rfl (map_get (by omega))) rfl rfl rfl rfl ?_
    refine .move (.no rfl) rfl rfl rfl rfl ?_
    refine .bin (.no rfl) rfl rfl rfl rfl rfl rfl ?_
    exact .fin () (.of (.cons rfl (.cons rfl (.cons rfl (.cons rfl .nil)))) (.cons rfl .nil))
   intro _
   refine .cond (t := (keys.getD j default).toList == s.toList) rfl (fun c1 => ?_) (fun c1 => ?_)
   ·have c1 := c1
    refine .seq ?_
    refine .reg (X := Unit) (fun ζ => .of [(2, .one (.d (.v (.bool (true)))))] []) [⟨[], some 2, [], []⟩] (fun k9 => ?_) ?_
    ·skip
     refine .assign (.no rfl) rfl rfl rfl rfl ?_
     exact .fin () (.of (.cons rfl .nil) .nil)
    intro _
    refine .ret ?_
    have e10 : (true) = (isKey s) := by exact (any_found (p := fun x => strEq x s) (j := j) (by omega) c1).symm
    have hc11 := eq1 (fun z1 => SV.one (.d (.v (.bool (z1))))) e10
    show _ ∧ _
    exact ⟨.inr rfl, .done ⟨_, [], [], _, .one (c := .d (.v (.bool (isKey s)))) (hc11) .nil, .cons (Reads.d _).gives .nil, nodupB_ok rfl, by simp, (by simp)⟩⟩
   ·have c1 := c1
    refine .skip ?_
    refine .reg (X := Unit) (fun ζ => .of [(0, .one (.d (.v (.string (s))))), (3, .one (.ref [5] (q5))), (4, .one (.d (.v (.int .i64 (IntKind.wrap .i64 ((j : Int) + 1))))))] [([5], (q5, q6, .row 9 1 (List.map strc (keys))))]) [⟨[4], some 10, [], []⟩, ⟨[10], some 11, [], []⟩, ⟨[11], some 4, [], []⟩] (fun k12 => ?_) ?_
    ·skip
     refine .move (.no rfl) rfl rfl rfl rfl ?_
     refine .bin (.no rfl) rfl rfl rfl rfl rfl rfl ?_
     refine .assign (.no rfl) rfl rfl rfl rfl ?_
     exact .fin () (.of (.cons rfl (.cons rfl (.cons rfl .nil))) (.cons rfl .nil))
    intro _
    exact .here ((j + 1), q5, q6) (.of (.cons rfl (.cons rfl (.cons (svI (show (IntKind.wrap .i64 ((j : Int) + 1)) = (((j + 1) : Int)) by first | rfl | omega | exact wrap_le (by omega) (by omega) | (rw [wrap_le (by omega) (by omega)]; omega))) .nil))) (.cons rfl .nil)) ⟨(show (j + 1) ≤ keys.length ∧ allTo (j + 1) (fun i => !strEq (keys.getD i default) s) = true by exact ⟨by omega, allTo_step hI.2 (by rw [show strEq (keys.getD j default) s = false from c1]; rfl)⟩), (show keys.length - (j + 1) < keys.length - j by omega)⟩
  ·have c0 := of_decide_eq_false c0
   refine .exit ?_
   refine .seq ?_
   refine .reg (X := Unit) (fun ζ => .of [(2, .one (.d (.v (.bool (false)))))] []) [⟨[], some 2, [], []⟩] (fun k13 => ?_) ?_
   ·skip
    refine .assign (.no rfl) rfl rfl rfl rfl ?_
    exact .fin () (.of (.cons rfl .nil) .nil)
   intro _
   refine .ret ?_
   have e14 : (false) = (isKey s) := by exact (any_none (p := fun x => strEq x s) (j := j) (by omega) hI.2).symm
   have hc15 := eq1 (fun z1 => SV.one (.d (.v (.bool (z1))))) e14
   show _ ∧ _
   exact ⟨.inr rfl, .done ⟨_, [], [], _, .one (c := .d (.v (.bool (isKey s)))) (hc15) .nil, .cons (Reads.d _).gives .nil, nodupB_ok rfl, by simp, (by simp)⟩⟩
theorem c_l3Name (s : ByteArray) (hs : s.size ≤ 9223372036854775807) : Trip Tryz.prog 94 [(false, 1)] ([.v (.string (s))]) [(false, 1)] [.v (.bool (nmOk s))] [] := by
 refine Trip.of Tryz.func94 (by decide) (c := _) rfl rfl (shB_ok rfl) (Nat.le_of_ble_eq_true rfl) rfl (AftOk.nil _) ?_
 refine .seq ?_
 refine .reg (X := Unit) (fun ζ => .of [(0, .one (.d (.v (.string (s)))))] []) [⟨[], some 2, [], []⟩] (fun k1 => ?_) ?_
 ·skip
  refine .assign (.no rfl) rfl rfl rfl rfl ?_
  exact .fin () (.of (.cons rfl .nil) .nil)
 intro _
 refine .seq ?_
 refine .seq ?_
 refine .reg (X := Unit) (fun ζ => .of [(0, .one (.d (.v (.string (s))))), (3, .one (.d (.v (.int .i64 (0)))))] []) [⟨[], some 3, [], []⟩] (fun k2 => ?_) ?_
 ·skip
  refine .assign (.no rfl) rfl rfl rfl rfl ?_
  exact .fin () (.of (.cons rfl (.cons rfl .nil)) .nil)
 intro _
 refine .block ?_
 refine .loop (X := Nat) (fun ζ => .of [(0, .one (.d (.v (.string (s))))), (3, .one (.d (.v (.int .i64 ((ζ : Int))))))] []) (fun ζ => ζ ≤ s.size ∧ allTo ζ (fun i => decide (97 ≤ byteAt s i ∧ byteAt s i ≤ 122)) = true) (fun ζ => s.size - ζ) ?_ ?_
 ·skip
  exact .here 0 (.of (.cons rfl (.cons (svI (show (0) = ((0 : Int)) by first | rfl | omega | exact wrap_le (by omega) (by omega) | (rw [wrap_le (by omega) (by omega)]; omega))) .nil)) .nil) (show 0 ≤ s.size ∧ allTo 0 (fun i => decide (97 ≤ byteAt s i ∧ byteAt s i ≤ 122)) = true by exact ⟨by omega, rfl⟩)
 ·rintro j hI
  have hI : j ≤ s.size ∧ allTo j (fun i => decide (97 ≤ byteAt s i ∧ byteAt s i ≤ 122)) = true := hI
  refine .seq ?_
  refine .seq ?_
  refine .reg (X := Unit) (fun ζ => .of [(0, .one (.d (.v (.string (s))))), (3, .one (.d (.v (.int .i64 ((j : Int)))))), (7, .one (.d (.v (.bool (decide ((j : Int) < (s.size : Int)))))))] []) [⟨[3], some 4, [], []⟩, ⟨[0], some 5, [], []⟩, ⟨[5], some 6, [], []⟩, ⟨[4, 6], some 7, [], []⟩] (fun k3 => ?_) ?_
  ·skip
   refine .move (.no rfl) rfl rfl rfl rfl ?_
   refine .move (.no rfl) rfl rfl rfl rfl ?_
   refine .lenStr (.no rfl) rfl t9 rfl rfl rfl rfl rfl ?_
   refine .bin (.no rfl) rfl rfl rfl rfl rfl rfl ?_
   exact .fin () (.of (.cons rfl (.cons rfl (.cons rfl .nil))) .nil)
  intro _
  refine .cond (t := decide ((j : Int) < (s.size : Int))) rfl (fun c0 => ?_) (fun c0 => ?_)
  ·have c0 := of_decide_eq_true c0
   refine .skip ?_
   refine .seq ?_
   refine .block ?_
   refine .seq ?_
   refine .reg (X := Unit) (fun ζ => .of [(0, .one (.d (.v (.string (s))))), (3, .one (.d (.v (.int .i64 ((j : Int)))))), (19, .one (.d (.v (.bool ((decide ((byteAt s j) < 97) || decide ((byteAt s j) > 122)))))))] []) [⟨[0], some 10, [], []⟩, ⟨[3], some 11, [], []⟩, ⟨[10, 11], some 12, [], []⟩, ⟨[12], some 13, [], []⟩, ⟨[13], some 14, [], []⟩, ⟨[14, 0], some 15, [], []⟩, ⟨[14, 3], some 16, [], []⟩, ⟨[14, 15, 16], some 17, [], []⟩, ⟨[14, 17], some 18, [], []⟩, ⟨[14, 18], some 19, [], []⟩] (fun k4 => ?_) ?_
   ·skip
    refine .move (.no rfl) rfl rfl rfl rfl ?_
    refine .move (.no rfl) rfl rfl rfl rfl ?_
    refine .indexStr (.no rfl) rfl (z := byteAt s j) (j) t9 rfl rfl rfl rfl rfl (b8_get (by omega)) rfl rfl ?_
    refine .bin (.no rfl) rfl rfl rfl rfl rfl rfl ?_
    refine .moveB (.no rfl) rfl rfl rfl rfl fun b5 g4_4 => ?_
    cases b5
    ·skip
     refine .move (.on rfl rfl rfl rfl rfl) rfl rfl rfl rfl ?_
     refine .move (.on rfl rfl rfl rfl rfl) rfl rfl rfl rfl ?_
     refine .indexStr (.on rfl rfl rfl rfl rfl) rfl (z := byteAt s j) (j) t9 rfl rfl rfl rfl rfl (b8_get (by omega)) rfl rfl ?_
     refine .bin (.on rfl rfl rfl rfl rfl) rfl rfl rfl rfl rfl rfl ?_
     refine .pick (.no rfl) rfl rfl rfl rfl rfl ?_
     exact .fin () (.of (.cons rfl (.cons rfl (.cons (svB (show (decide ((byteAt s j) > 122)) = ((decide ((byteAt s j) < 97) || decide ((byteAt s j) > 122))) by first | (simp only [g4_4, Bool.true_or, Bool.false_or, Bool.true_and, Bool.false_and, Bool.not_true, Bool.not_false]; done) | simp [g4_4])) .nil))) .nil)
    ·skip
     refine .off rfl rfl rfl rfl rfl rfl rfl ?_
     refine .off rfl rfl rfl rfl rfl rfl rfl ?_
     refine .off rfl rfl rfl rfl rfl rfl rfl ?_
     refine .off rfl rfl rfl rfl rfl rfl rfl ?_
     refine .pick (.no rfl) rfl rfl rfl rfl rfl ?_
     exact .fin () (.of (.cons rfl (.cons rfl (.cons (svB (show (true) = ((decide ((byteAt s j) < 97) || decide ((byteAt s j) > 122))) by first | (simp only [g4_4, Bool.true_or, Bool.false_or, Bool.true_and, Bool.false_and, Bool.not_true, Bool.not_false]; done) | simp [g4_4])) .nil))) .nil)
   intro _
   refine .cond (t := (decide ((byteAt s j) < 97) || decide ((byteAt s j) > 122))) rfl (fun c1 => ?_) (fun c1 => ?_)
   ·have c1 := c1
    try simp only [Bool.or_eq_true, Bool.or_eq_false_iff, Bool.and_eq_true, Bool.and_eq_false_iff, decide_eq_true_eq, decide_eq_false_iff_not, Bool.not_eq_true', Bool.not_eq_false', bne_iff_ne, beq_iff_eq, bne_eq_false_iff_eq, beq_eq_false_iff_ne, ne_eq, Bool.not_eq_eq_eq_not, Bool.not_true, Bool.not_false] at c1
    refine .seq ?_
    refine .reg (X := Unit) (fun ζ => .of [(2, .one (.d (.v (.bool (false)))))] []) [⟨[], some 2, [], []⟩] (fun k6 => ?_) ?_
    ·skip
     refine .assign (.no rfl) rfl rfl rfl rfl ?_
     exact .fin () (.of (.cons rfl .nil) .nil)
    intro _
    refine .ret ?_
    have e7 : (false) = (nmOk s) := by (simp only [nmOk, letters]; rw [allTo_fail (j := j) (by omega) (by have h9 := byteAt_le s j; simp only [decide_eq_false_iff_not]; omega)]; rfl)
    have hc8 := eq1 (fun z1 => SV.one (.d (.v (.bool (z1))))) e7
    show _ ∧ _
    exact ⟨.inr rfl, .done ⟨_, [], [], _, .one (c := .d (.v (.bool (nmOk s)))) (hc8) .nil, .cons (Reads.d _).gives .nil, nodupB_ok rfl, by simp, (by simp)⟩⟩
   ·have c1 := c1
    try simp only [Bool.or_eq_true, Bool.or_eq_false_iff, Bool.and_eq_true, Bool.and_eq_false_iff, decide_eq_true_eq, decide_eq_false_iff_not, Bool.not_eq_true', Bool.not_eq_false', bne_iff_ne, beq_iff_eq, bne_eq_false_iff_eq, beq_eq_false_iff_ne, ne_eq, Bool.not_eq_eq_eq_not, Bool.not_true, Bool.not_false] at c1
    refine .skip ?_
    refine .reg (X := Unit) (fun ζ => .of [(0, .one (.d (.v (.string (s))))), (3, .one (.d (.v (.int .i64 (IntKind.wrap .i64 ((j : Int) + 1))))))] []) [⟨[3], some 8, [], []⟩, ⟨[8], some 9, [], []⟩, ⟨[9], some 3, [], []⟩] (fun k9 => ?_) ?_
    ·skip
     refine .move (.no rfl) rfl rfl rfl rfl ?_
     refine .bin (.no rfl) rfl rfl rfl rfl rfl rfl ?_
     refine .assign (.no rfl) rfl rfl rfl rfl ?_
     exact .fin () (.of (.cons rfl (.cons rfl .nil)) .nil)
    intro _
    exact .here (j + 1) (.of (.cons rfl (.cons (svI (show (IntKind.wrap .i64 ((j : Int) + 1)) = (((j + 1) : Int)) by first | rfl | omega | exact wrap_le (by omega) (by omega) | (rw [wrap_le (by omega) (by omega)]; omega))) .nil)) .nil) ⟨(show (j + 1) ≤ s.size ∧ allTo (j + 1) (fun i => decide (97 ≤ byteAt s i ∧ byteAt s i ≤ 122)) = true by exact ⟨by omega, allTo_step hI.2 (by simp only [decide_eq_true_eq]; omega)⟩), (show s.size - (j + 1) < s.size - j by omega)⟩
  ·have c0 := of_decide_eq_false c0
   refine .exit ?_
   refine .seq ?_
   refine .reg (X := Unit) (fun ζ => .of [(2, .one (.d (.v (.bool ((inR (s.size : Int) 1 8 && !(isKey s)))))))] []) [⟨[0], some 20, [], []⟩, ⟨[20], some 21, [], []⟩, ⟨[21], some 22, [], []⟩, ⟨[22], some 23, [], []⟩, ⟨[23, 0], some 24, [], []⟩, ⟨[23, 24], some 25, [], []⟩, ⟨[23, 25], some 26, [], []⟩, ⟨[23, 26], some 27, [], []⟩, ⟨[27], some 2, [], []⟩] (fun k10 => ?_) ?_
   ·skip
    refine .move (.no rfl) rfl rfl rfl rfl ?_
    refine .lenStr (.no rfl) rfl t9 rfl rfl rfl rfl rfl ?_
    refine .call (.no rfl) rfl [] [] (c_l1In (s.size : Int) 1 8) rfl rfl rfl rfl rfl (.cons (Reads.d _).gives (.cons (Reads.d _).gives (.cons (Reads.d _).gives .nil))) rfl rfl (fun h => absurd rfl h) (.own [22, 0] .nil) (.nil) rfl rfl rfl (by simp) rfl rfl rfl ?_
    refine .moveB (.no rfl) rfl rfl rfl rfl fun b11 g6_3 => ?_
    cases b11
    ·skip
     refine .off rfl rfl rfl rfl rfl rfl rfl ?_
     refine .off rfl rfl rfl rfl rfl rfl rfl ?_
     refine .off rfl rfl rfl rfl rfl rfl rfl ?_
     refine .pick (.no rfl) rfl rfl rfl rfl rfl ?_
     refine .assign (.no rfl) rfl rfl rfl rfl ?_
     exact .fin () (.of (.cons (svB (show (false) = ((inR (s.size : Int) 1 8 && !(isKey s))) by first | (simp only [g6_3, Bool.true_or, Bool.false_or, Bool.true_and, Bool.false_and, Bool.not_true, Bool.not_false]; done) | simp [g6_3])) .nil) .nil)
    ·skip
     refine .move (.on rfl rfl rfl rfl rfl) rfl rfl rfl rfl ?_
     refine .call (.on rfl rfl rfl rfl rfl) rfl [] [] (c_l3Key s) rfl rfl rfl rfl rfl (.cons (Reads.d _).gives .nil) rfl rfl (fun h => absurd rfl h) (.own [25, 0] .nil) (.nil) rfl rfl rfl (by simp) rfl rfl rfl ?_
     refine .un (.on rfl rfl rfl rfl rfl) rfl rfl rfl rfl rfl ?_
     refine .pick (.no rfl) rfl rfl rfl rfl rfl ?_
     refine .assign (.no rfl) rfl rfl rfl rfl ?_
     exact .fin () (.of (.cons (svB (show (!(isKey s)) = ((inR (s.size : Int) 1 8 && !(isKey s))) by first | (simp only [g6_3, Bool.true_or, Bool.false_or, Bool.true_and, Bool.false_and, Bool.not_true, Bool.not_false]; done) | simp [g6_3])) .nil) .nil)
   intro _
   refine .ret ?_
   have e12 : ((inR (s.size : Int) 1 8 && !(isKey s))) = (nmOk s) := by (have hj : j = s.size := (by omega); subst hj; simp only [nmOk, letters]; rw [hI.2]; first | rfl | simp_all)
   have hc13 := eq1 (fun z1 => SV.one (.d (.v (.bool (z1))))) e12
   show _ ∧ _
   exact ⟨.inr rfl, .done ⟨_, [], [], _, .one (c := .d (.v (.bool (nmOk s)))) (hc13) .nil, .cons (Reads.d _).gives .nil, nodupB_ok rfl, by simp, (by simp)⟩⟩
theorem c_l3Place (l : List ByteArray) (s : ByteArray) : Trip Tryz.prog 95 [(false, 1), (false, 1)] ([.sl false 9 1 (List.map strc (l))] ++ [.v (.string (s))]) [(false, 1)] [.v (.int .i64 (place l s))] [] := by
 refine Trip.of Tryz.func95 (by decide) (c := _) rfl rfl (shB_ok rfl) (Nat.le_of_ble_eq_true rfl) rfl (AftOk.nil _) ?_
 refine .sat (t := 0) rfl (fun hs1 => ?_)
 have hs1l : l.length ≤ 9223372036854775807 := hs1.maplen
 refine .seq ?_
 refine .reg (X := Unit) (fun ζ => .of [(0, .one (.d (.sl false 9 1 (List.map strc (l))))), (1, .one (.d (.v (.string (s)))))] []) [⟨[], some 4, [], []⟩] (fun k2 => ?_) ?_
 ·skip
  refine .assign (.no rfl) rfl rfl rfl rfl ?_
  exact .fin () (.of (.cons rfl (.cons rfl .nil)) .nil)
 intro _
 refine .seq ?_
 refine .seq ?_
 refine .reg (X := Unit) (fun ζ => .of [(0, .one (.d (.sl false 9 1 (List.map strc (l))))), (1, .one (.d (.v (.string (s))))), (5, .one (.d (.v (.int .i64 (0)))))] []) [⟨[], some 5, [], []⟩] (fun k3 => ?_) ?_
 ·skip
  refine .assign (.no rfl) rfl rfl rfl rfl ?_
  exact .fin () (.of (.cons rfl (.cons rfl (.cons rfl .nil))) .nil)
 intro _
 refine .block ?_
 refine .loop (X := Nat) (fun ζ => .of [(0, .one (.d (.sl false 9 1 (List.map strc (l))))), (1, .one (.d (.v (.string (s))))), (5, .one (.d (.v (.int .i64 ((ζ : Int))))))] []) (fun ζ => ζ ≤ l.length ∧ allTo ζ (fun i => !strEq (l.getD i default) s) = true) (fun ζ => l.length - ζ) ?_ ?_
 ·skip
  exact .here 0 (.of (.cons rfl (.cons rfl (.cons (svI (show (0) = ((0 : Int)) by first | rfl | omega | exact wrap_le (by omega) (by omega) | (rw [wrap_le (by omega) (by omega)]; omega))) .nil))) .nil) (show 0 ≤ l.length ∧ allTo 0 (fun i => !strEq (l.getD i default) s) = true by exact ⟨by omega, rfl⟩)
 ·rintro j hI
  have hI : j ≤ l.length ∧ allTo j (fun i => !strEq (l.getD i default) s) = true := hI
  refine .seq ?_
  refine .seq ?_
  refine .reg (X := Unit) (fun ζ => .of [(0, .one (.d (.sl false 9 1 (List.map strc (l))))), (1, .one (.d (.v (.string (s))))), (5, .one (.d (.v (.int .i64 ((j : Int)))))), (9, .one (.d (.v (.bool (decide ((j : Int) < (l.length : Int)))))))] []) [⟨[5], some 6, [], []⟩, ⟨[0], some 7, [], []⟩, ⟨[7], some 8, [], []⟩, ⟨[6, 8], some 9, [], []⟩] (fun k4 => ?_) ?_
  ·skip
   refine .move (.no rfl) rfl rfl rfl rfl ?_
   refine .move (.no rfl) rfl rfl rfl rfl ?_
   refine .len (.no rfl) rfl (z := (l.length : Int)) t22 rfl rfl rfl (.d _ _) (map_len _ _) rfl ?_
   refine .bin (.no rfl) rfl rfl rfl rfl rfl rfl ?_
   exact .fin () (.of (.cons rfl (.cons rfl (.cons rfl (.cons rfl .nil)))) .nil)
  intro _
  refine .cond (t := decide ((j : Int) < (l.length : Int))) rfl (fun c0 => ?_) (fun c0 => ?_)
  ·have c0 := of_decide_eq_true c0
   refine .skip ?_
   refine .seq ?_
   refine .block ?_
   refine .seq ?_
   refine .reg (X := Unit) (fun ζ => .of [(0, .one (.d (.sl false 9 1 (List.map strc (l))))), (1, .one (.d (.v (.string (s))))), (5, .one (.d (.v (.int .i64 ((j : Int)))))), (17, .one (.d (.v (.bool ((l.getD j default).toList == s.toList)))))] []) [⟨[0], some 12, [], []⟩, ⟨[5], some 13, [], []⟩, ⟨[12, 13], some 14, [], []⟩, ⟨[14], some 15, [], []⟩, ⟨[1], some 16, [], []⟩, ⟨[15, 16], some 17, [], []⟩] (fun k5 => ?_) ?_
   ·skip
    refine .move (.no rfl) rfl rfl rfl rfl ?_
    refine .move (.no rfl) rfl rfl rfl rfl ?_
    refine .indexAddr (.no rfl) rfl (j) t22 rfl t9 rfl rfl rfl (.d _ _) rfl rfl rfl (map_get (by omega)) rfl rfl ?_
    refine .load (.no rfl) rfl t9 rfl rfl (.d _) rfl rfl rfl rfl ?_
    refine .move (.no rfl) rfl rfl rfl rfl ?_
    refine .bin (.no rfl) rfl rfl rfl rfl rfl rfl ?_
    exact .fin () (.of (.cons rfl (.cons rfl (.cons rfl (.cons rfl .nil)))) .nil)
   intro _
   refine .cond (t := (l.getD j default).toList == s.toList) rfl (fun c1 => ?_) (fun c1 => ?_)
   ·have c1 := c1
    refine .seq ?_
    refine .reg (X := Unit) (fun ζ => .of [(4, .one (.d (.v (.int .i64 ((j : Int))))))] []) [⟨[5], some 18, [], []⟩, ⟨[18], some 4, [], []⟩] (fun k6 => ?_) ?_
    ·skip
     refine .move (.no rfl) rfl rfl rfl rfl ?_
     refine .assign (.no rfl) rfl rfl rfl rfl ?_
     exact .fin () (.of (.cons rfl .nil) .nil)
    intro _
    refine .ret ?_
    have e7 : ((j : Int)) = (place l s) := by exact (idx_found (p := fun x => strEq x s) (by omega) hI.2 c1).symm
    have hc8 := eq1 (fun z1 => SV.one (.d (.v (.int .i64 (z1))))) e7
    show _ ∧ _
    exact ⟨.inr rfl, .done ⟨_, [], [], _, .one (c := .d (.v (.int .i64 (place l s)))) (hc8) .nil, .cons (Reads.d _).gives .nil, nodupB_ok rfl, by simp, (by simp)⟩⟩
   ·have c1 := c1
    refine .skip ?_
    refine .reg (X := Unit) (fun ζ => .of [(0, .one (.d (.sl false 9 1 (List.map strc (l))))), (1, .one (.d (.v (.string (s))))), (5, .one (.d (.v (.int .i64 (IntKind.wrap .i64 ((j : Int) + 1))))))] []) [⟨[5], some 10, [], []⟩, ⟨[10], some 11, [], []⟩, ⟨[11], some 5, [], []⟩] (fun k9 => ?_) ?_
    ·skip
     refine .move (.no rfl) rfl rfl rfl rfl ?_
     refine .bin (.no rfl) rfl rfl rfl rfl rfl rfl ?_
     refine .assign (.no rfl) rfl rfl rfl rfl ?_
     exact .fin () (.of (.cons rfl (.cons rfl (.cons rfl .nil))) .nil)
    intro _
    exact .here (j + 1) (.of (.cons rfl (.cons rfl (.cons (svI (show (IntKind.wrap .i64 ((j : Int) + 1)) = (((j + 1) : Int)) by first | rfl | omega | exact wrap_le (by omega) (by omega) | (rw [wrap_le (by omega) (by omega)]; omega))) .nil))) .nil) ⟨(show (j + 1) ≤ l.length ∧ allTo (j + 1) (fun i => !strEq (l.getD i default) s) = true by exact ⟨by omega, allTo_step hI.2 (by rw [show strEq (l.getD j default) s = false from c1]; rfl)⟩), (show l.length - (j + 1) < l.length - j by omega)⟩
  ·have c0 := of_decide_eq_false c0
   refine .exit ?_
   refine .seq ?_
   refine .reg (X := Unit) (fun ζ => .of [(4, .one (.d (.v (.int .i64 (-1)))))] []) [⟨[], some 4, [], []⟩] (fun k10 => ?_) ?_
   ·skip
    refine .assign (.no rfl) rfl rfl rfl rfl ?_
    exact .fin () (.of (.cons rfl .nil) .nil)
   intro _
   refine .ret ?_
   have e11 : (-1) = (place l s) := by exact (idx_none (p := fun x => strEq x s) (j := j) (by omega) hI.2).symm
   have hc12 := eq1 (fun z1 => SV.one (.d (.v (.int .i64 (z1))))) e11
   show _ ∧ _
   exact ⟨.inr rfl, .done ⟨_, [], [], _, .one (c := .d (.v (.int .i64 (place l s)))) (hc12) .nil, .cons (Reads.d _).gives .nil, nodupB_ok rfl, by simp, (by simp)⟩⟩
theorem c_l6List (e : Env) (hb : e.ints.length ≤ 1048576 ∧ e.arrs.length ≤ 1048576) : Trip Tryz.prog 116 [(true, 3)] (Env.c77 e) [(false, 1)] [.sl true 122 2 (List.map Iv.c (e.ints ++ e.arrs))] [] := by
 refine Trip.of Tryz.func116 (by decide) (c := _) rfl rfl (shB_ok rfl) (Nat.le_of_ble_eq_true rfl) rfl (AftOk.nil _) ?_
 refine .satA (t := 0) (i := 1) rfl rfl (fun hs1 => ?_)
 have hs1l : e.ints.length ≤ 9223372036854775807 := hs1.maplen
 refine .satA (t := 0) (i := 2) rfl rfl (fun hs2 => ?_)
 have hs2l : e.arrs.length ≤ 9223372036854775807 := hs2.maplen
 refine .seq ?_
 refine .reg (X := Nat) (fun ζ => .of [(1, .one (.ptr [1] (ζ) 0))] [([1], (ζ, ζ, .box [.d (.v (.bool (e.live))), .d (.sl false 122 2 (List.map Iv.c (e.ints))), .d (.sl false 122 2 (List.map Iv.c (e.arrs)))]))]) [⟨[0], some 1, [], [[1]]⟩, ⟨[], some 2, [], []⟩] (fun k3 => ?_) ?_
 ·skip
  refine .box (.no rfl) rfl rfl rfl rfl rfl ?_
  refine .assign (.no rfl) rfl rfl rfl rfl ?_
  exact .fin k3 (.of (.cons rfl .nil) (.cons rfl .nil))
 intro g4
 refine .seq ?_
 refine .regD (X := Nat) (by kernel_rfl) (fun ζ => .of [(2, .one (.ref [3] (ζ)))] [([3], (ζ, ζ, .row 122 2 (List.map Iv.c (e.ints ++ e.arrs))))]) [⟨[], some 3, [], [[3]]⟩, ⟨[1], some 4, [], []⟩, ⟨[4], some 5, [[1]], []⟩, ⟨[3, 5], some 6, [[3]], [[3]]⟩, ⟨[1], some 7, [], []⟩, ⟨[7], some 8, [[1]], []⟩, ⟨[6, 8], some 9, [[3]], [[3]]⟩, ⟨[9], some 2, [], []⟩] (by kernel_rfl) (fun k5 => ?_) ?_
 ·skip
  refine .buildSlice (.no rfl) rfl (els := []) t75 rfl z122 rfl rfl rfl rfl rfl rfl rfl rfl (by simp [i122]) .nil rfl rfl rfl ?_
  refine .fieldAddrP (.no rfl) rfl t77 rfl rfl t75 rfl rfl rfl rfl ?_
  refine .load (.no rfl) rfl t75 rfl rfl (.ptr _ _ _ _ _ rfl) rfl rfl rfl rfl ?_
  refine .append (.no rfl) rfl (l3 := List.map Iv.c (e.ints)) t75 rfl z122 rfl rfl rfl rfl rfl rfl rfl rfl (.ref _ _ _ _ rfl) (.ro _ _) rfl (by simp [i122]; omega) (List.nil_append _) rfl rfl ?_
  refine .fieldAddrP (.no rfl) rfl t77 rfl rfl t75 rfl rfl rfl rfl ?_
  refine .load (.no rfl) rfl t75 rfl rfl (.ptr _ _ _ _ _ rfl) rfl rfl rfl rfl ?_
  refine .append (.no rfl) rfl (l3 := List.map Iv.c (e.ints ++ e.arrs)) t75 rfl z122 rfl rfl rfl rfl rfl rfl rfl rfl (.ref _ _ _ _ rfl) (.ro _ _) rfl (by simp [i122]; omega) (map_app _ _ _) rfl rfl ?_
  refine .assign (.no rfl) rfl rfl rfl rfl ?_
  exact .fin (k5 + 1 + 1 + 1 + 1 + 1 + 1) (.of (.cons rfl .nil) (.cons rfl .nil))
 intro g6
 refine .ret ?_
 show _ ∧ _
 exact ⟨.inr rfl, .done ⟨_, [], [([3], (g6, g6, .row 122 2 (List.map Iv.c (e.ints ++ e.arrs))))], _, .one rfl .nil, .cons (.ref (.head _)) .nil, nodupB_ok rfl, by simp, (AllH.get (.cons rfl .nil))⟩⟩
end Go.Proofs

namespace Go.Proofs
open Go Go.Proofs Go.Ev

theorem c_sDeclOk (d : Decl) (hs : ∀ x ∈ Decl.names d, x.size ≤ 9223372036854775807) (hb : d.vars.length ≤ 1048576 ∧ d.flags.length ≤ 1048576 ∧ d.arrays.length ≤ 1048576) : Trip Tryz.prog 58 [(true, 3)] (Decl.c38 d) [(false, 1)] [.v (.bool (Decl.ok d))] [] := by
 refine Trip.of Tryz.func58 (by decide) (c := _) rfl rfl (shB_ok rfl) (Nat.le_of_ble_eq_true rfl) rfl (AftOk.nil _) ?_
 refine .satA (t := 0) (i := 0) rfl rfl (fun hs1 => ?_)
 have hs1l : d.vars.length ≤ 9223372036854775807 := hs1.maplen
 refine .satA (t := 0) (i := 1) rfl rfl (fun hs2 => ?_)
 have hs2l : d.flags.length ≤ 9223372036854775807 := hs2.maplen
 refine .satA (t := 0) (i := 2) rfl rfl (fun hs3 => ?_)
 have hs3l : d.arrays.length ≤ 9223372036854775807 := hs3.maplen
 refine .seq ?_
 refine .reg (X := Nat) (fun ζ => .of [(1, .one (.ptr [1] (ζ) 0))] [([1], (ζ, ζ, .box [.d (.sl false 9 1 (List.map strc (d.vars))), .d (.sl false 9 1 (List.map strc (d.flags))), .d (.sl false 119 2 (List.map Arr.c (d.arrays)))]))]) [⟨[0], some 1, [], [[1]]⟩, ⟨[], some 2, [], []⟩] (fun k4 => ?_) ?_
 ·skip
  refine .box (.no rfl) rfl rfl rfl rfl rfl ?_
  refine .assign (.no rfl) rfl rfl rfl rfl ?_
  exact .fin k4 (.of (.cons rfl .nil) (.cons rfl .nil))
 intro g5
 refine .seq ?_
 refine .seq ?_
 refine .reg (X := Unit) (fun ζ => .of [(1, .one (.ptr [1] (g5) 0)), (21, .one (.d (.v (.bool (((decide ((d.vars.length : Int) > 5) || decide ((d.flags.length : Int) > 3)) || decide ((d.arrays.length : Int) > 2)))))))] [([1], (g5, g5, .box [.d (.sl false 9 1 (List.map strc (d.vars))), .d (.sl false 9 1 (List.map strc (d.flags))), .d (.sl false 119 2 (List.map Arr.c (d.arrays)))]))]) [⟨[1], some 6, [], []⟩, ⟨[6], some 7, [[1]], []⟩, ⟨[7], some 8, [], []⟩, ⟨[8], some 9, [], []⟩, ⟨[9], some 10, [], []⟩, ⟨[10, 1], some 11, [], []⟩, ⟨[10, 11], some 12, [[1]], []⟩, ⟨[10, 12], some 13, [], []⟩, ⟨[10, 13], some 14, [], []⟩, ⟨[10, 14], some 15, [], []⟩, ⟨[15], some 16, [], []⟩, ⟨[16, 1], some 17, [], []⟩, ⟨[16, 17], some 18, [[1]], []⟩, ⟨[16, 18], some 19, [], []⟩, ⟨[16, 19], some 20, [], []⟩, ⟨[16, 20], some 21, [], []⟩] (fun k6 => ?_) ?_
 ·skip
  refine .fieldAddrP (.no rfl) rfl t38 rfl rfl t22 rfl rfl rfl rfl ?_
  refine .load (.no rfl) rfl t22 rfl rfl (.ptr _ _ _ _ _ rfl) rfl rfl rfl rfl ?_
  refine .len (.no rfl) rfl (z := (d.vars.length : Int)) t22 rfl rfl rfl (.d _ _) (map_len _ _) rfl ?_
  refine .bin (.no rfl) rfl rfl rfl rfl rfl rfl ?_
  refine .moveB (.no rfl) rfl rfl rfl rfl fun b7 g1_4 => ?_
  cases b7
  ·skip
   refine .fieldAddrP (.on rfl rfl rfl rfl rfl) rfl t38 rfl rfl t22 rfl rfl rfl rfl ?_
   refine .load (.on rfl rfl rfl rfl rfl) rfl t22 rfl rfl (.ptr _ _ _ _ _ rfl) rfl rfl rfl rfl ?_
   refine .len (.on rfl rfl rfl rfl rfl) rfl (z := (d.flags.length : Int)) t22 rfl rfl rfl (.d _ _) (map_len _ _) rfl ?_
   refine .bin (.on rfl rfl rfl rfl rfl) rfl rfl rfl rfl rfl rfl ?_
   refine .pick (.no rfl) rfl rfl rfl rfl rfl ?_
   refine .moveB (.no rfl) rfl rfl rfl rfl fun b8 g1_10 => ?_
   cases b8
   ·skip
    refine .fieldAddrP (.on rfl rfl rfl rfl rfl) rfl t38 rfl rfl t36 rfl rfl rfl rfl ?_
    refine .load (.on rfl rfl rfl rfl rfl) rfl t36 rfl rfl (.ptr _ _ _ _ _ rfl) rfl rfl rfl rfl ?_
    refine .len (.on rfl rfl rfl rfl rfl) rfl (z := (d.arrays.length : Int)) t36 rfl rfl rfl (.d _ _) (map_len _ _) rfl ?_
    refine .bin (.on rfl rfl rfl rfl rfl) rfl rfl rfl rfl rfl rfl ?_
    refine .pick (.no rfl) rfl rfl rfl rfl rfl ?_
    exact .fin () (.of (.cons rfl (.cons (svB (show (decide ((d.arrays.length : Int) > 2)) = (((decide ((d.vars.length : Int) > 5) || decide ((d.flags.length : Int) > 3)) || decide ((d.arrays.length : Int) > 2))) by first | (simp only [g1_4, g1_10, Bool.true_or, Bool.false_or, Bool.true_and, Bool.false_and, Bool.not_true, Bool.not_false]; done) | simp [g1_4, g1_10])) .nil)) (.cons rfl .nil))
   ·skip
    refine .off rfl rfl rfl rfl rfl rfl rfl ?_
    refine .off rfl rfl rfl rfl rfl rfl rfl ?_
    refine .off rfl rfl rfl rfl rfl rfl rfl ?_
    refine .off rfl rfl rfl rfl rfl rfl rfl ?_
    refine .pick (.no rfl) rfl rfl rfl rfl rfl ?_
    exact .fin () (.of (.cons rfl (.cons (svB (show (true) = (((decide ((d.vars.length : Int) > 5) || decide ((d.flags.length : Int) > 3)) || decide ((d.arrays.length : Int) > 2))) by first | (simp only [g1_4, g1_10, Bool.true_or, Bool.false_or, Bool.true_and, Bool.false_and, Bool.not_true, Bool.not_false]; done) | simp [g1_4, g1_10])) .nil)) (.cons rfl .nil))
  ·skip
   refine .off rfl rfl rfl rfl rfl rfl rfl ?_
   refine .off rfl rfl rfl rfl rfl rfl rfl ?_
   refine .off rfl rfl rfl rfl rfl rfl rfl ?_
   refine .off rfl rfl rfl rfl rfl rfl rfl ?_
   refine .pick (.no rfl) rfl rfl rfl rfl rfl ?_
   refine .move (.no rfl) rfl rfl rfl rfl ?_
   refine .off rfl rfl rfl rfl rfl rfl rfl ?_
   refine .off rfl rfl rfl rfl rfl rfl rfl ?_
   refine .off rfl rfl rfl rfl rfl rfl rfl ?_
   refine .off rfl rfl rfl rfl rfl rfl rfl ?_
   refine .pick (.no rfl) rfl rfl rfl rfl rfl ?_
   exact .fin () (.of (.cons rfl (.cons (svB (show (true) = (((decide ((d.vars.length : Int) > 5) || decide ((d.flags.length : Int) > 3)) || decide ((d.arrays.length : Int) > 2))) by first | (simp only [g1_4, Bool.true_or, Bool.false_or, Bool.true_and, Bool.false_and, Bool.not_true, Bool.not_false]; done) | simp [g1_4])) .nil)) (.cons rfl .nil))
 intro _
 refine .cond (t := ((decide ((d.vars.length : Int) > 5) || decide ((d.flags.length : Int) > 3)) || decide ((d.arrays.length : Int) > 2))) rfl (fun c0 => ?_) (fun c0 => ?_)
 ·have c0 := c0
  try simp only [Bool.or_eq_true, Bool.or_eq_false_iff, Bool.and_eq_true, Bool.and_eq_false_iff, decide_eq_true_eq, decide_eq_false_iff_not, Bool.not_eq_true', Bool.not_eq_false', bne_iff_ne, beq_iff_eq, bne_eq_false_iff_eq, beq_eq_false_iff_ne, ne_eq, Bool.not_eq_eq_eq_not, Bool.not_true, Bool.not_false] at c0
  refine .seq ?_
  refine .reg (X := Unit) (fun ζ => .of [(2, .one (.d (.v (.bool (false)))))] []) [⟨[], some 2, [], []⟩] (fun k9 => ?_) ?_
  ·skip
   refine .assign (.no rfl) rfl rfl rfl rfl ?_
   exact .fin () (.of (.cons rfl .nil) .nil)
  intro _
  refine .ret ?_
  have e10 : (false) = (Decl.ok d) := by exact (Decl.ok_ne (by omega)).symm
  have hc11 := eq1 (fun z1 => SV.one (.d (.v (.bool (z1))))) e10
  show _ ∧ _
  exact ⟨.inr rfl, .done ⟨_, [], [], _, .one (c := .d (.v (.bool (Decl.ok d)))) (hc11) .nil, .cons (Reads.d _).gives .nil, nodupB_ok rfl, by simp, (by simp)⟩⟩
 ·have c0 := c0
  try simp only [Bool.or_eq_true, Bool.or_eq_false_iff, Bool.and_eq_true, Bool.and_eq_false_iff, decide_eq_true_eq, decide_eq_false_iff_not, Bool.not_eq_true', Bool.not_eq_false', bne_iff_ne, beq_iff_eq, bne_eq_false_iff_eq, beq_eq_false_iff_ne, ne_eq, Bool.not_eq_eq_eq_not, Bool.not_true, Bool.not_false] at c0
  refine .skip ?_
  refine .seq ?_
  refine .regD (X := Nat) (by kernel_rfl) (fun ζ => .of [(1, .one (.ptr [1] (g5) 0)), (3, .one (.ref [22] (ζ)))] [([1], (g5, g5, .box [.d (.sl false 9 1 (List.map strc (d.vars))), .d (.sl false 9 1 (List.map strc (d.flags))), .d (.sl false 119 2 (List.map Arr.c (d.arrays)))])), ([22], (ζ, ζ, .row 9 1 (List.map strc (d.vars ++ d.flags))))]) [⟨[], some 22, [], [[22]]⟩, ⟨[1], some 23, [], []⟩, ⟨[23], some 24, [[1]], []⟩, ⟨[22, 24], some 25, [[22]], [[22]]⟩, ⟨[1], some 26, [], []⟩, ⟨[26], some 27, [[1]], []⟩, ⟨[25, 27], some 28, [[22]], [[22]]⟩, ⟨[28], some 3, [], []⟩] (by kernel_rfl) (fun k12 => ?_) ?_
  ·skip
   refine .buildSlice (.no rfl) rfl (els := []) t22 rfl z9 rfl rfl rfl rfl rfl rfl rfl rfl (by simp [i9]) .nil rfl rfl rfl ?_
   refine .fieldAddrP (.no rfl) rfl t38 rfl rfl t22 rfl rfl rfl rfl ?_
   refine .load (.no rfl) rfl t22 rfl rfl (.ptr _ _ _ _ _ rfl) rfl rfl rfl rfl ?_
   refine .append (.no rfl) rfl (l3 := List.map strc (d.vars)) t22 rfl z9 rfl rfl rfl rfl rfl rfl rfl rfl (.ref _ _ _ _ rfl) (.ro _ _) rfl (by simp [i9]; omega) (List.nil_append _) rfl rfl ?_
   refine .fieldAddrP (.no rfl) rfl t38 rfl rfl t22 rfl rfl rfl rfl ?_
   refine .load (.no rfl) rfl t22 rfl rfl (.ptr _ _ _ _ _ rfl) rfl rfl rfl rfl ?_
   refine .append (.no rfl) rfl (l3 := List.map strc (d.vars ++ d.flags)) t22 rfl z9 rfl rfl rfl rfl rfl rfl rfl rfl (.ref _ _ _ _ rfl) (.ro _ _) rfl (by simp [i9]; omega) (map_app _ _ _) rfl rfl ?_
   refine .assign (.no rfl) rfl rfl rfl rfl ?_
   exact .fin (k12 + 1 + 1 + 1 + 1 + 1 + 1) (.of (.cons rfl (.cons rfl .nil)) (.cons rfl (.cons rfl .nil)))
  intro g13
  refine .seq ?_
  refine .seq ?_
  refine .reg (X := Unit) (fun ζ => .of [(1, .one (.ptr [1] (g5) 0)), (3, .one (.ref [22] (g13))), (4, .one (.d (.v (.int .i64 (0)))))] [([1], (g5, g5, .box [.d (.sl false 9 1 (List.map strc (d.vars))), .d (.sl false 9 1 (List.map strc (d.flags))), .d (.sl false 119 2 (List.map Arr.c (d.arrays)))])), ([22], (g13, g13, .row 9 1 (List.map strc (d.vars ++ d.flags))))]) [⟨[], some 4, [], []⟩] (fun k14 => ?_) ?_
  ·skip
   refine .assign (.no rfl) rfl rfl rfl rfl ?_
   exact .fin () (.of (.cons rfl (.cons rfl (.cons rfl .nil))) (.cons rfl (.cons rfl .nil)))
  intro _
  refine .block ?_
  refine .loop (X := Nat × Nat × Nat) (fun ζ => .of [(1, .one (.ptr [1] (g5) 0)), (3, .one (.ref [22] (ζ.2.1))), (4, .one (.d (.v (.int .i64 ((ζ.1 : Int))))))] [([1], (g5, g5, .box [.d (.sl false 9 1 (List.map strc (d.vars))), .d (.sl false 9 1 (List.map strc (d.flags))), .d (.sl false 119 2 (List.map Arr.c (d.arrays)))])), ([22], (ζ.2.1, ζ.2.2, .row 9 1 (List.map strc (d.vars ++ d.flags ++ (d.arrays.take ζ.1).map Arr.name))))]) (fun ζ => ζ.1 ≤ d.arrays.length ∧ allTo ζ.1 (fun i => inR (d.arrays.getD i default).size 1 16) = true) (fun ζ => d.arrays.length - ζ.1) ?_ ?_
  ·skip
   exact .here (0, g13, g13) (.of (.cons rfl (.cons rfl (.cons (svI (show (0) = ((0 : Int)) by first | rfl | omega | exact wrap_le (by omega) (by omega) | (rw [wrap_le (by omega) (by omega)]; omega))) .nil))) (.cons rfl (.cons (rowE (show List.map strc (d.vars ++ d.flags) = List.map strc (d.vars ++ d.flags ++ (d.arrays.take 0).map Arr.name) by first | (simp; done) | (rw [List.append_assoc (d.vars ++ d.flags), take_step (f := Arr.name) (by omega)]) | (simp only [Decl.names]; rw [List.take_of_length_le (by omega)]))) .nil))) (show 0 ≤ d.arrays.length ∧ allTo 0 (fun i => inR (d.arrays.getD i default).size 1 16) = true by exact ⟨by omega, rfl⟩)
  ·rintro ⟨j, q15, q16⟩ hI
   have hI : j ≤ d.arrays.length ∧ allTo j (fun i => inR (d.arrays.getD i default).size 1 16) = true := hI
   refine .seq ?_
   refine .seq ?_
   refine .reg (X := Unit) (fun ζ => .of [(1, .one (.ptr [1] (g5) 0)), (3, .one (.ref [22] (q15))), (4, .one (.d (.v (.int .i64 ((j : Int)))))), (33, .one (.d (.v (.bool (decide ((j : Int) < (d.arrays.length : Int)))))))] [([1], (g5, g5, .box [.d (.sl false 9 1 (List.map strc (d.vars))), .d (.sl false 9 1 (List.map strc (d.flags))), .d (.sl false 119 2 (List.map Arr.c (d.arrays)))])), ([22], (q15, q16, .row 9 1 (List.map strc (d.vars ++ d.flags ++ (d.arrays.take j).map Arr.name))))]) [⟨[4], some 29, [], []⟩, ⟨[1], some 30, [], []⟩, ⟨[30], some 31, [[1]], []⟩, ⟨[31], some 32, [], []⟩, ⟨[29, 32], some 33, [], []⟩] (fun k17 => ?_) ?_
   ·skip
    refine .move (.no rfl) rfl rfl rfl rfl ?_
    refine .fieldAddrP (.no rfl) rfl t38 rfl rfl t36 rfl rfl rfl rfl ?_
    refine .load (.no rfl) rfl t36 rfl rfl (.ptr _ _ _ _ _ rfl) rfl rfl rfl rfl ?_
    refine .len (.no rfl) rfl (z := (d.arrays.length : Int)) t36 rfl rfl rfl (.d _ _) (map_len _ _) rfl ?_
    refine .bin (.no rfl) rfl rfl rfl rfl rfl rfl ?_
    exact .fin () (.of (.cons rfl (.cons rfl (.cons rfl (.cons rfl .nil)))) (.cons rfl (.cons rfl .nil)))
   intro _
   refine .cond (t := decide ((j : Int) < (d.arrays.length : Int))) rfl (fun c1 => ?_) (fun c1 => ?_)
   ·have c1 := of_decide_eq_true c1
    refine .skip ?_
    refine .seq ?_
    refine .block ?_
    refine .seq ?_
    refine .seq ?_
    refine .reg (X := Unit) (fun ζ => .of [(1, .one (.ptr [1] (g5) 0)), (3, .one (.ref [22] (q15))), (4, .one (.d (.v (.int .i64 ((j : Int)))))), (43, .one (.d (.v (.bool (!(inR ((d.arrays.getD j default).size) 1 16))))))] [([1], (g5, g5, .box [.d (.sl false 9 1 (List.map strc (d.vars))), .d (.sl false 9 1 (List.map strc (d.flags))), .d (.sl false 119 2 (List.map Arr.c (d.arrays)))])), ([22], (q15, q16, .row 9 1 (List.map strc (d.vars ++ d.flags ++ (d.arrays.take j).map Arr.name))))]) [⟨[1], some 36, [], []⟩, ⟨[36], some 37, [[1]], []⟩, ⟨[4], some 38, [], []⟩, ⟨[37, 38], some 39, [], []⟩, ⟨[39], some 40, [], []⟩, ⟨[40], some 41, [], []⟩, ⟨[41], some 42, [], []⟩, ⟨[42], some 43, [], []⟩] (fun k18 => ?_) ?_
    ·skip
     refine .fieldAddrP (.no rfl) rfl t38 rfl rfl t36 rfl rfl rfl rfl ?_
     refine .load (.no rfl) rfl t36 rfl rfl (.ptr _ _ _ _ _ rfl) rfl rfl rfl rfl ?_
     refine .move (.no rfl) rfl rfl rfl rfl ?_
     refine .indexAddr (.no rfl) rfl (j) t36 rfl t119 rfl rfl rfl (.d _ _) rfl rfl rfl (map_get (by omega)) rfl rfl ?_
     refine .fieldAddr (.no rfl) rfl t119 rfl rfl t2 rfl rfl rfl rfl [] (by simp) (by intro _ _ _ h; cases h) rfl rfl ?_
     refine .load (.no rfl) rfl t2 rfl rfl (.d _) rfl rfl rfl rfl ?_
     refine .call (.no rfl) rfl [] [] (c_l1In ((d.arrays.getD j default).size) 1 16) rfl rfl rfl rfl rfl (.cons (Reads.d _).gives (.cons (Reads.d _).gives (.cons (Reads.d _).gives .nil))) rfl rfl (fun h => absurd rfl h) (.own [42, 0] .nil) (.nil) rfl rfl rfl (by simp) rfl rfl rfl ?_
     refine .un (.no rfl) rfl rfl rfl rfl rfl ?_
     exact .fin () (.of (.cons rfl (.cons rfl (.cons rfl (.cons rfl .nil)))) (.cons rfl (.cons rfl .nil)))
    intro _
    refine .cond (t := !(inR ((d.arrays.getD j default).size) 1 16)) rfl (fun c2 => ?_) (fun c2 => ?_)
    ·have c2 := c2
     try simp only [Bool.or_eq_true, Bool.or_eq_false_iff, Bool.and_eq_true, Bool.and_eq_false_iff, decide_eq_true_eq, decide_eq_false_iff_not, Bool.not_eq_true', Bool.not_eq_false', bne_iff_ne, beq_iff_eq, bne_eq_false_iff_eq, beq_eq_false_iff_ne, ne_eq, Bool.not_eq_eq_eq_not, Bool.not_true, Bool.not_false] at c2
     refine .seq ?_
     refine .reg (X := Unit) (fun ζ => .of [(2, .one (.d (.v (.bool (false)))))] []) [⟨[], some 2, [], []⟩] (fun k19 => ?_) ?_
     ·skip
      refine .assign (.no rfl) rfl rfl rfl rfl ?_
      exact .fin () (.of (.cons rfl .nil) .nil)
     intro _
     refine .ret ?_
     have e20 : (false) = (Decl.ok d) := by exact (Decl.ok_size (j := j) (by omega) c2).symm
     have hc21 := eq1 (fun z1 => SV.one (.d (.v (.bool (z1))))) e20
     show _ ∧ _
     exact ⟨.inr rfl, .done ⟨_, [], [], _, .one (c := .d (.v (.bool (Decl.ok d)))) (hc21) .nil, .cons (Reads.d _).gives .nil, nodupB_ok rfl, by simp, (by simp)⟩⟩
    ·have c2 := c2
     try simp only [Bool.or_eq_true, Bool.or_eq_false_iff, Bool.and_eq_true, Bool.and_eq_false_iff, decide_eq_true_eq, decide_eq_false_iff_not, Bool.not_eq_true', Bool.not_eq_false', bne_iff_ne, beq_iff_eq, bne_eq_false_iff_eq, beq_eq_false_iff_ne, ne_eq, Bool.not_eq_eq_eq_not, Bool.not_true, Bool.not_false] at c2
     refine .skip ?_
     refine .reg (X := Nat) (fun ζ => .of [(1, .one (.ptr [1] (g5) 0)), (3, .one (.ref [22] (ζ))), (4, .one (.d (.v (.int .i64 ((j : Int))))))] [([1], (g5, g5, .box [.d (.sl false 9 1 (List.map strc (d.vars))), .d (.sl false 9 1 (List.map strc (d.flags))), .d (.sl false 119 2 (List.map Arr.c (d.arrays)))])), ([22], (ζ, ζ, .row 9 1 (List.map strc (d.vars ++ d.flags ++ (d.arrays.take j).map Arr.name ++ [(d.arrays.getD j default).name]))))]) [⟨[3], some 44, [], []⟩, ⟨[1], some 45, [], []⟩, ⟨[45], some 46, [[1]], []⟩, ⟨[4], some 47, [], []⟩, ⟨[46, 47], some 48, [], []⟩, ⟨[48], some 49, [], []⟩, ⟨[49], some 50, [], []⟩, ⟨[50], some 51, [], [[51]]⟩, ⟨[44, 51], some 52, [[22], [51]], [[51], [22]]⟩, ⟨[52], some 3, [], []⟩] (fun k22 => ?_) ?_
     ·skip
      refine .move (.no rfl) rfl rfl rfl rfl ?_
      refine .fieldAddrP (.no rfl) rfl t38 rfl rfl t36 rfl rfl rfl rfl ?_
      refine .load (.no rfl) rfl t36 rfl rfl (.ptr _ _ _ _ _ rfl) rfl rfl rfl rfl ?_
      refine .move (.no rfl) rfl rfl rfl rfl ?_
      refine .indexAddr (.no rfl) rfl (j) t36 rfl t119 rfl rfl rfl (.d _ _) rfl rfl rfl (map_get (by omega)) rfl rfl ?_
      refine .fieldAddr (.no rfl) rfl t119 rfl rfl t9 rfl rfl rfl rfl [] (by simp) (by intro _ _ _ h; cases h) rfl rfl ?_
      refine .load (.no rfl) rfl t9 rfl rfl (.d _) rfl rfl rfl rfl ?_
      refine .buildSlice (.no rfl) rfl (els := [[.v (.string ((d.arrays.getD j default).name))]]) t22 rfl z9 rfl rfl rfl rfl rfl rfl rfl rfl (by simp [i9]) (.cons _ _ _ _ _ _ (.d _) .nil) rfl rfl rfl ?_
      refine .append (.no rfl) rfl (l3 := List.map strc (d.vars ++ d.flags ++ (d.arrays.take j).map Arr.name ++ [(d.arrays.getD j default).name])) t22 rfl z9 rfl rfl rfl rfl rfl rfl rfl rfl (.ref _ _ _ _ rfl) (.take _ _ _ _ _ rfl) rfl (by simp [i9]; omega) (map_snoc _ _ _) rfl rfl ?_
      refine .assign (.no rfl) rfl rfl rfl rfl ?_
      exact .fin (k22 + 1 + 1 + 1 + 1 + 1 + 1 + 1 + 1) (.of (.cons rfl (.cons rfl (.cons rfl .nil))) (.cons rfl (.cons rfl .nil)))
     intro g23
     refine .reg (X := Unit) (fun ζ => .of [(1, .one (.ptr [1] (g5) 0)), (3, .one (.ref [22] (g23))), (4, .one (.d (.v (.int .i64 (IntKind.wrap .i64 ((j : Int) + 1))))))] [([1], (g5, g5, .box [.d (.sl false 9 1 (List.map strc (d.vars))), .d (.sl false 9 1 (List.map strc (d.flags))), .d (.sl false 119 2 (List.map Arr.c (d.arrays)))])), ([22], (g23, g23, .row 9 1 (List.map strc (d.vars ++ d.flags ++ (d.arrays.take j).map Arr.name ++ [(d.arrays.getD j default).name]))))]) [⟨[4], some 34, [], []⟩, ⟨[34], some 35, [], []⟩, ⟨[35], some 4, [], []⟩] (fun k24 => ?_) ?_
     ·skip
      refine .move (.no rfl) rfl rfl rfl rfl ?_
      refine .bin (.no rfl) rfl rfl rfl rfl rfl rfl ?_
      refine .assign (.no rfl) rfl rfl rfl rfl ?_
      exact .fin () (.of (.cons rfl (.cons rfl (.cons rfl .nil))) (.cons rfl (.cons rfl .nil)))
     intro _
     exact .here ((j + 1), g23, g23) (.of (.cons rfl (.cons rfl (.cons (svI (show (IntKind.wrap .i64 ((j : Int) + 1)) = (((j + 1) : Int)) by first | rfl | omega | exact wrap_le (by omega) (by omega) | (rw [wrap_le (by omega) (by omega)]; omega))) .nil))) (.cons rfl (.cons (rowE (show List.map strc (d.vars ++ d.flags ++ (d.arrays.take j).map Arr.name ++ [(d.arrays.getD j default).name]) = List.map strc (d.vars ++ d.flags ++ (d.arrays.take (j + 1)).map Arr.name) by first | (simp; done) | (rw [List.append_assoc (d.vars ++ d.flags), take_step (f := Arr.name) (by omega)]) | (simp only [Decl.names]; rw [List.take_of_length_le (by omega)]))) .nil))) ⟨(show (j + 1) ≤ d.arrays.length ∧ allTo (j + 1) (fun i => inR (d.arrays.getD i default).size 1 16) = true by exact ⟨by omega, allTo_step hI.2 (by simpa using c2)⟩), (show d.arrays.length - (j + 1) < d.arrays.length - j by omega)⟩
   ·have c1 := of_decide_eq_false c1
    refine .exit ?_
    refine .seq ?_
    refine .seq ?_
    refine .reg (X := Unit) (fun ζ => .of [(3, .one (.ref [22] (q15))), (5, .one (.d (.v (.int .i64 (0)))))] [([22], (q15, q16, .row 9 1 (List.map strc (d.vars ++ d.flags ++ (d.arrays.take j).map Arr.name))))]) [⟨[], some 5, [], []⟩] (fun k25 => ?_) ?_
    ·skip
     refine .assign (.no rfl) rfl rfl rfl rfl ?_
     exact .fin () (.of (.cons rfl (.cons rfl .nil)) (.cons rfl .nil))
    intro _
    refine .block ?_
    refine .loop (X := Nat × Nat × Nat) (fun ζ => .of [(3, .one (.ref [22] (ζ.2.1))), (5, .one (.d (.v (.int .i64 ((ζ.1 : Int))))))] [([22], (ζ.2.1, ζ.2.2, .row 9 1 (List.map strc (Decl.names d))))]) (fun ζ => ζ.1 ≤ (Decl.names d).length ∧ allTo ζ.1 (nameOk (Decl.names d)) = true) (fun ζ => (Decl.names d).length - ζ.1) ?_ ?_
    ·skip
     exact .here (0, q15, q16) (.of (.cons rfl (.cons (svI (show (0) = ((0 : Int)) by first | rfl | omega | exact wrap_le (by omega) (by omega) | (rw [wrap_le (by omega) (by omega)]; omega))) .nil)) (.cons (rowE (show List.map strc (d.vars ++ d.flags ++ (d.arrays.take j).map Arr.name) = List.map strc (Decl.names d) by first | (simp; done) | (rw [List.append_assoc (d.vars ++ d.flags), take_step (f := Arr.name) (by omega)]) | (simp only [Decl.names]; rw [List.take_of_length_le (by omega)]))) .nil)) (show 0 ≤ (Decl.names d).length ∧ allTo 0 (nameOk (Decl.names d)) = true by exact ⟨by omega, rfl⟩)
    ·rintro ⟨i, q26, q27⟩ hI
     have hI : i ≤ (Decl.names d).length ∧ allTo i (nameOk (Decl.names d)) = true := hI
     have hI0 := ‹j ≤ d.arrays.length ∧ _›
     have hn9 : (Decl.names d).length ≤ 3145728 := by simp [Decl.names]; omega
     refine .seq ?_
     refine .seq ?_
     refine .reg (X := Unit) (fun ζ => .of [(3, .one (.ref [22] (q26))), (5, .one (.d (.v (.int .i64 ((i : Int)))))), (56, .one (.d (.v (.bool (decide ((i : Int) < ((Decl.names d).length : Int)))))))] [([22], (q26, q27, .row 9 1 (List.map strc (Decl.names d))))]) [⟨[5], some 53, [], []⟩, ⟨[3], some 54, [], []⟩, ⟨[54], some 55, [[22]], []⟩, ⟨[53, 55], some 56, [], []⟩] (fun k28 => ?_) ?_
     ·skip
      refine .move (.no rfl) rfl rfl rfl rfl ?_
      refine .move (.no rfl) rfl rfl rfl rfl ?_
      refine .len (.no rfl) rfl (z := ((Decl.names d).length : Int)) t22 rfl rfl rfl (.ref _ _ _ _ _ rfl) (map_len _ _) rfl ?_
      refine .bin (.no rfl) rfl rfl rfl rfl rfl rfl ?_
      exact .fin () (.of (.cons rfl (.cons rfl (.cons rfl .nil))) (.cons rfl .nil))
     intro _
     refine .cond (t := decide ((i : Int) < ((Decl.names d).length : Int))) rfl (fun c3 => ?_) (fun c3 => ?_)
     ·have c3 := of_decide_eq_true c3
      refine .skip ?_
      refine .seq ?_
      refine .block ?_
      refine .seq ?_
      refine .regD (X := Unit) (by kernel_rfl) (fun ζ => .of [(3, .one (.ref [22] (q26))), (5, .one (.d (.v (.int .i64 ((i : Int)))))), (75, .one (.d (.v (.bool ((!(nmOk ((Decl.names d).getD (i) default)) || decide ((place ((Decl.names d).take i) ((Decl.names d).getD (i) default)) ≥ 0)))))))] [([22], (q26, q27, .row 9 1 (List.map strc (Decl.names d))))]) [⟨[3], some 59, [], []⟩, ⟨[5], some 60, [], []⟩, ⟨[59, 60], some 61, [[22]], []⟩, ⟨[61], some 62, [[22]], []⟩, ⟨[62], some 63, [], []⟩, ⟨[63], some 64, [], []⟩, ⟨[64], some 65, [], []⟩, ⟨[65, 3], some 66, [], []⟩, ⟨[65, 5], some 67, [], []⟩, ⟨[65, 66, 67], some 68, [[22]], []⟩, ⟨[65, 3], some 69, [], []⟩, ⟨[65, 5], some 70, [], []⟩, ⟨[65, 69, 70], some 71, [[22]], []⟩, ⟨[65, 71], some 72, [[22]], []⟩, ⟨[65, 68, 72], some 73, [[22]], []⟩, ⟨[65, 73], some 74, [], []⟩, ⟨[65, 74], some 75, [], []⟩] (by kernel_rfl) (fun k29 => ?_) ?_
      ·skip
       refine .move (.no rfl) rfl rfl rfl rfl ?_
       refine .move (.no rfl) rfl rfl rfl rfl ?_
       refine .indexAddr (.no rfl) rfl (i) t22 rfl t9 rfl rfl rfl (.ref _ _ _ _ _ rfl) rfl rfl rfl (map_get (by omega)) rfl rfl ?_
       refine .load (.no rfl) rfl t9 rfl rfl (.eptr _ _ _ _ _ _ _ _ _ rfl (map_get (by omega))) rfl rfl rfl rfl ?_
       refine .call (.no rfl) rfl [] [] (c_l3Name ((Decl.names d).getD (i) default) (by exact hs _ (getD_mem (by omega)))) rfl rfl rfl rfl rfl (.cons (Reads.d _).gives .nil) rfl rfl (fun h => absurd rfl h) (.own [63, 0] .nil) (.nil) rfl rfl rfl (by simp) rfl rfl rfl ?_
       refine .un (.no rfl) rfl rfl rfl rfl rfl ?_
       refine .moveB (.no rfl) rfl rfl rfl rfl fun b30 g13_6 => ?_
       cases b30
       ·skip
        refine .move (.on rfl rfl rfl rfl rfl) rfl rfl rfl rfl ?_
        refine .move (.on rfl rfl rfl rfl rfl) rfl rfl rfl rfl ?_
        refine .slice (.on rfl rfl rfl rfl rfl) rfl (lv := 0) (hv := i) (m := q27) t22 rfl t9 rfl rfl (.ref _ _ _ _ _ rfl) rfl (by intro _ _ h; cases h; exact ⟨_, .head _⟩) (by exact rfl) (by exact ⟨_, rfl⟩) (Nat.zero_le _) (le_map (by omega)) rfl rfl ?_
        refine .move (.on rfl rfl rfl rfl rfl) rfl rfl rfl rfl ?_
        refine .move (.on rfl rfl rfl rfl rfl) rfl rfl rfl rfl ?_
        refine .indexAddr (.on rfl rfl rfl rfl rfl) rfl (i) t22 rfl t9 rfl rfl rfl (.ref _ _ _ _ _ rfl) rfl rfl rfl (map_get (by omega)) rfl rfl ?_
        refine .load (.on rfl rfl rfl rfl rfl) rfl t9 rfl rfl (.eptr _ _ _ _ _ _ _ _ _ rfl (map_get (by omega))) rfl rfl rfl rfl ?_
        refine .call (.on rfl rfl rfl rfl rfl) rfl [[22]] [([22], (q26, q27, .row 9 1 (List.map strc (Decl.names d))))] (c_l3Place ((Decl.names d).take i) ((Decl.names d).getD (i) default)) rfl rfl rfl rfl rfl (.cons (Reads.cut (Frz.of_erase (erase_takeo _ _ _ _ _ _ strc_e)) (le_map (by omega)) (.head _) (.head _)).gives (.cons (Reads.d _).gives .nil)) rfl rfl (fun _ => (ownCons (Owned.v _) ownNil)) (.own [73, 0] .nil) (.nil) rfl rfl rfl (AllH.get (.cons rfl .nil)) rfl rfl rfl ?_
        refine .bin (.on rfl rfl rfl rfl rfl) rfl rfl rfl rfl rfl rfl ?_
        refine .pick (.no rfl) rfl rfl rfl rfl rfl ?_
        exact .fin () (.of (.cons rfl (.cons rfl (.cons (svB (show (decide ((place ((Decl.names d).take i) ((Decl.names d).getD (i) default)) ≥ 0)) = ((!(nmOk ((Decl.names d).getD (i) default)) || decide ((place ((Decl.names d).take i) ((Decl.names d).getD (i) default)) ≥ 0))) by first | (simp only [g13_6, Bool.true_or, Bool.false_or, Bool.true_and, Bool.false_and, Bool.not_true, Bool.not_false]; done) | simp [g13_6])) .nil))) (.cons rfl .nil))
       ·skip
        refine .off rfl rfl rfl rfl rfl rfl rfl ?_
        refine .off rfl rfl rfl rfl rfl rfl rfl ?_
        refine .off rfl rfl rfl rfl rfl rfl rfl ?_
        refine .off rfl rfl rfl rfl rfl rfl rfl ?_
        refine .off rfl rfl rfl rfl rfl rfl rfl ?_
        refine .off rfl rfl rfl rfl rfl rfl rfl ?_
        refine .off rfl rfl rfl rfl rfl rfl rfl ?_
        refine .off rfl rfl rfl rfl rfl rfl rfl ?_
        refine .off rfl rfl rfl rfl rfl rfl rfl ?_
        refine .pick (.no rfl) rfl rfl rfl rfl rfl ?_
        exact .fin () (.of (.cons rfl (.cons rfl (.cons (svB (show (true) = ((!(nmOk ((Decl.names d).getD (i) default)) || decide ((place ((Decl.names d).take i) ((Decl.names d).getD (i) default)) ≥ 0))) by first | (simp only [g13_6, Bool.true_or, Bool.false_or, Bool.true_and, Bool.false_and, Bool.not_true, Bool.not_false]; done) | simp [g13_6])) .nil))) (.cons rfl .nil))
      intro _
      refine .cond (t := (!(nmOk ((Decl.names d).getD (i) default)) || decide ((place ((Decl.names d).take i) ((Decl.names d).getD (i) default)) ≥ 0))) rfl (fun c4 => ?_) (fun c4 => ?_)
      ·have c4 := c4
       try simp only [Bool.or_eq_true, Bool.or_eq_false_iff, Bool.and_eq_true, Bool.and_eq_false_iff, decide_eq_true_eq, decide_eq_false_iff_not, Bool.not_eq_true', Bool.not_eq_false', bne_iff_ne, beq_iff_eq, bne_eq_false_iff_eq, beq_eq_false_iff_ne, ne_eq, Bool.not_eq_eq_eq_not, Bool.not_true, Bool.not_false] at c4
       refine .seq ?_
       refine .reg (X := Unit) (fun ζ => .of [(2, .one (.d (.v (.bool (false)))))] []) [⟨[], some 2, [], []⟩] (fun k31 => ?_) ?_
       ·skip
        refine .assign (.no rfl) rfl rfl rfl rfl ?_
        exact .fin () (.of (.cons rfl .nil) .nil)
       intro _
       refine .ret ?_
       have e32 : (false) = (Decl.ok d) := by exact (Decl.ok_name (j := i) (by omega) c4).symm
       have hc33 := eq1 (fun z1 => SV.one (.d (.v (.bool (z1))))) e32
       show _ ∧ _
       exact ⟨.inr rfl, .done ⟨_, [], [], _, .one (c := .d (.v (.bool (Decl.ok d)))) (hc33) .nil, .cons (Reads.d _).gives .nil, nodupB_ok rfl, by simp, (by simp)⟩⟩
      ·have c4 := c4
       try simp only [Bool.or_eq_true, Bool.or_eq_false_iff, Bool.and_eq_true, Bool.and_eq_false_iff, decide_eq_true_eq, decide_eq_false_iff_not, Bool.not_eq_true', Bool.not_eq_false', bne_iff_ne, beq_iff_eq, bne_eq_false_iff_eq, beq_eq_false_iff_ne, ne_eq, Bool.not_eq_eq_eq_not, Bool.not_true, Bool.not_false] at c4
       refine .skip ?_
       refine .reg (X := Unit) (fun ζ => .of [(3, .one (.ref [22] (q26))), (5, .one (.d (.v (.int .i64 (IntKind.wrap .i64 ((i : Int) + 1))))))] [([22], (q26, q27, .row 9 1 (List.map strc (Decl.names d))))]) [⟨[5], some 57, [], []⟩, ⟨[57], some 58, [], []⟩, ⟨[58], some 5, [], []⟩] (fun k34 => ?_) ?_
       ·skip
        refine .move (.no rfl) rfl rfl rfl rfl ?_
        refine .bin (.no rfl) rfl rfl rfl rfl rfl rfl ?_
        refine .assign (.no rfl) rfl rfl rfl rfl ?_
        exact .fin () (.of (.cons rfl (.cons rfl .nil)) (.cons rfl .nil))
       intro _
       exact .here ((i + 1), q26, q27) (.of (.cons rfl (.cons (svI (show (IntKind.wrap .i64 ((i : Int) + 1)) = (((i + 1) : Int)) by first | rfl | omega | exact wrap_le (by omega) (by omega) | (rw [wrap_le (by omega) (by omega)]; omega))) .nil)) (.cons rfl .nil)) ⟨(show (i + 1) ≤ (Decl.names d).length ∧ allTo (i + 1) (nameOk (Decl.names d)) = true by exact ⟨by omega, allTo_step hI.2 (nameOk_of c4)⟩), (show (Decl.names d).length - (i + 1) < (Decl.names d).length - i by omega)⟩
     ·have c3 := of_decide_eq_false c3
      refine .exit ?_
      refine .seq ?_
      refine .reg (X := Unit) (fun ζ => .of [(2, .one (.d (.v (.bool (true)))))] []) [⟨[], some 2, [], []⟩] (fun k35 => ?_) ?_
      ·skip
       refine .assign (.no rfl) rfl rfl rfl rfl ?_
       exact .fin () (.of (.cons rfl .nil) .nil)
      intro _
      refine .ret ?_
      have e36 : (true) = (Decl.ok d) := by exact (Decl.ok_done (by omega) hI0.2 (by omega) (j := i) (by omega) hI.2).symm
      have hc37 := eq1 (fun z1 => SV.one (.d (.v (.bool (z1))))) e36
      show _ ∧ _
      exact ⟨.inr rfl, .done ⟨_, [], [], _, .one (c := .d (.v (.bool (Decl.ok d)))) (hc37) .nil, .cons (Reads.d _).gives .nil, nodupB_ok rfl, by simp, (by simp)⟩⟩
end Go.Proofs

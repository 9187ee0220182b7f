/- Contracts of the program's functions at this seat, printed by a program of ours and checked by Lean: each under the conditions of its own statement. -/
import Derived.Test.YtimohcldmffcoaaDoorE4
import Derived.Test.YtimohcldmffcoaaDoorProg
import Derived.Test.YtimohcldmffcoaaDoorShelf
set_option linter.all false
set_option linter.unnecessarySimpa false
set_option linter.unusedSectionVars false
set_option linter.unusedSimpArgs false
set_option linter.unusedVariables false
namespace Go.Proofs
open Go Go.Proofs Go.Ev
instance : Lay := ⟨[(0, (List.range 256).map fun c => .v (.int .u8 (if Lib.isSp (UInt8.ofNat c) then 1 else 0)))]⟩

def strc (x : ByteArray) : List D := [.v (.string x)]
theorem strc_e (x : ByteArray) : (strc x).map D.erase = strc x := by simp [strc, D.erase_v]
theorem strc_o (x : ByteArray) : ∀ d ∈ strc x, Owned d := by simp [strc, Owned.v]
def Arr.c (x : Arr) : List D := [.v (.string (x.name)), .v (.int .i64 (x.size))]
theorem Arr.c_o (x : Arr) : ∀ d ∈ Arr.c x, Owned d := by simp [Arr.c, Owned.v]
theorem Arr.c_e (x : Arr) : (Arr.c x).map D.erase = Arr.c x := by simp [Arr.c, D.erase_v]
def Decl.c25 (x : Decl) : List D := [.sl false 9 1 (List.map strc (x.vars)), .sl false 9 1 (List.map strc (x.flags)), .sl false 92 2 (List.map Arr.c (x.arrays))]
theorem Decl.c25_e (x : Decl) : (Decl.c25 x).map D.erase = Decl.c25 x := by simp [Decl.c25, D.erase_v, erase_slo _ _ _ _ _ _ strc_e, erase_slo _ _ _ _ _ _ Arr.c_e]
def Decl.co25 (x : Decl) : List D := [.sl true 9 1 (List.map strc (x.vars)), .sl true 9 1 (List.map strc (x.flags)), .sl true 92 2 (List.map Arr.c (x.arrays))]
theorem Decl.co25_e (x : Decl) : (Decl.co25 x).map D.erase = Decl.c25 x := by simp [Decl.co25, Decl.c25, D.erase_v, erase_slo _ _ _ _ _ _ strc_e, erase_slo _ _ _ _ _ _ Arr.c_e]
theorem Decl.co25_o (x : Decl) : ∀ d ∈ Decl.co25 x, Owned d := by simp [Decl.co25, Owned.v, Owned.map _ _ _ _ strc_o, Owned.map _ _ _ _ Arr.c_o]
def Iv.c (x : Iv) : List D := [.v (.int .i64 (x.lo)), .v (.int .i64 (x.hi))]
theorem Iv.c_o (x : Iv) : ∀ d ∈ Iv.c x, Owned d := by simp [Iv.c, Owned.v]
theorem Iv.c_e (x : Iv) : (Iv.c x).map D.erase = Iv.c x := by simp [Iv.c, D.erase_v]
def Env.c28 (x : Env) : List D := [.v (.bool (x.live)), .sl false 102 2 (List.map Iv.c (x.ints)), .sl false 102 2 (List.map Iv.c (x.arrs))]
theorem Env.c28_e (x : Env) : (Env.c28 x).map D.erase = Env.c28 x := by simp [Env.c28, D.erase_v, erase_slo _ _ _ _ _ _ Iv.c_e]
def Env.co28 (x : Env) : List D := [.v (.bool (x.live)), .sl true 102 2 (List.map Iv.c (x.ints)), .sl true 102 2 (List.map Iv.c (x.arrs))]
theorem Env.co28_e (x : Env) : (Env.co28 x).map D.erase = Env.c28 x := by simp [Env.co28, Env.c28, D.erase_v, erase_slo _ _ _ _ _ _ Iv.c_e]
theorem Env.co28_o (x : Env) : ∀ d ∈ Env.co28 x, Owned d := by simp [Env.co28, Owned.v, Owned.map _ _ _ _ Iv.c_o]
def Env.c44 (x : Env) : List D := [.v (.bool (x.live)), .sl false 97 2 (List.map Iv.c (x.ints)), .sl false 97 2 (List.map Iv.c (x.arrs))]
theorem Env.c44_e (x : Env) : (Env.c44 x).map D.erase = Env.c44 x := by simp [Env.c44, D.erase_v, erase_slo _ _ _ _ _ _ Iv.c_e]
def Env.co44 (x : Env) : List D := [.v (.bool (x.live)), .sl true 97 2 (List.map Iv.c (x.ints)), .sl true 97 2 (List.map Iv.c (x.arrs))]
theorem Env.co44_e (x : Env) : (Env.co44 x).map D.erase = Env.c44 x := by simp [Env.co44, Env.c44, D.erase_v, erase_slo _ _ _ _ _ _ Iv.c_e]
theorem Env.co44_o (x : Env) : ∀ d ∈ Env.co44 x, Owned d := by simp [Env.co44, Owned.v, Owned.map _ _ _ _ Iv.c_o]
def Decl.c40 (x : Decl) : List D := [.sl false 9 1 (List.map strc (x.vars)), .sl false 9 1 (List.map strc (x.flags)), .sl false 98 2 (List.map Arr.c (x.arrays))]
theorem Decl.c40_e (x : Decl) : (Decl.c40 x).map D.erase = Decl.c40 x := by simp [Decl.c40, D.erase_v, erase_slo _ _ _ _ _ _ strc_e, erase_slo _ _ _ _ _ _ Arr.c_e]
def Decl.co40 (x : Decl) : List D := [.sl true 9 1 (List.map strc (x.vars)), .sl true 9 1 (List.map strc (x.flags)), .sl true 98 2 (List.map Arr.c (x.arrays))]
theorem Decl.co40_e (x : Decl) : (Decl.co40 x).map D.erase = Decl.c40 x := by simp [Decl.co40, Decl.c40, D.erase_v, erase_slo _ _ _ _ _ _ strc_e, erase_slo _ _ _ _ _ _ Arr.c_e]
theorem Decl.co40_o (x : Decl) : ∀ d ∈ Decl.co40 x, Owned d := by simp [Decl.co40, Owned.v, Owned.map _ _ _ _ strc_o, Owned.map _ _ _ _ Arr.c_o]
def i2 : TI := ⟨.int .i64, 1, 8, [.int .i64 0]⟩
theorem t2 : TyOk Tryd.prog 2 i2 := ⟨Tryd.underlying2, by kernel_rfl⟩
theorem z2 : ZOk Tryd.prog 2 i2 := ⟨t2, rfl⟩
def i4 : TI := ⟨.bool, 1, 1, [.bool false]⟩
theorem t4 : TyOk Tryd.prog 4 i4 := ⟨Tryd.underlying4, by kernel_rfl⟩
theorem z4 : ZOk Tryd.prog 4 i4 := ⟨t4, rfl⟩
def i9 : TI := ⟨.str, 1, 16, [.string .empty]⟩
theorem t9 : TyOk Tryd.prog 9 i9 := ⟨Tryd.underlying9, by kernel_rfl⟩
theorem z9 : ZOk Tryd.prog 9 i9 := ⟨t9, rfl⟩
def i22 : TI := ⟨.sl 9, 1, 24, [.slice none 0 0]⟩
theorem t22 : TyOk Tryd.prog 22 i22 := ⟨Tryd.underlying22, by kernel_rfl⟩
theorem z22 : ZOk Tryd.prog 22 i22 := ⟨t22, rfl⟩
def i23 : TI := ⟨.sl 92, 1, 24, [.slice none 0 0]⟩
theorem t23 : TyOk Tryd.prog 23 i23 := ⟨Tryd.underlying23, by kernel_rfl⟩
theorem z23 : ZOk Tryd.prog 23 i23 := ⟨t23, rfl⟩
def i25 : TI := ⟨.st [(0, 22), (1, 22), (2, 23)], 3, 72, [.slice none 0 0, .slice none 0 0, .slice none 0 0]⟩
theorem t25 : TyOk Tryd.prog 25 i25 := ⟨⟨_, Tryd.underlying25, rfl⟩, by kernel_rfl⟩
theorem z25 : ZOk Tryd.prog 25 i25 := ⟨t25, rfl⟩
theorem p25 : Places Tryd.prog [(0, 22), (1, 22), (2, 23)] [(0, 1), (1, 1), (2, 1)] := by unfold Places; kernel_rfl
def i26 : TI := ⟨.sl 102, 1, 24, [.slice none 0 0]⟩
theorem t26 : TyOk Tryd.prog 26 i26 := ⟨Tryd.underlying26, by kernel_rfl⟩
theorem z26 : ZOk Tryd.prog 26 i26 := ⟨t26, rfl⟩
def i28 : TI := ⟨.st [(0, 4), (1, 26), (2, 26)], 3, 56, [.bool false, .slice none 0 0, .slice none 0 0]⟩
theorem t28 : TyOk Tryd.prog 28 i28 := ⟨⟨_, Tryd.underlying28, rfl⟩, by kernel_rfl⟩
theorem z28 : ZOk Tryd.prog 28 i28 := ⟨t28, rfl⟩
theorem p28 : Places Tryd.prog [(0, 4), (1, 26), (2, 26)] [(0, 1), (1, 1), (2, 1)] := by unfold Places; kernel_rfl
def i38 : TI := ⟨.sl 98, 1, 24, [.slice none 0 0]⟩
theorem t38 : TyOk Tryd.prog 38 i38 := ⟨Tryd.underlying38, by kernel_rfl⟩
theorem z38 : ZOk Tryd.prog 38 i38 := ⟨t38, rfl⟩
def i40 : TI := ⟨.st [(0, 22), (1, 22), (2, 38)], 3, 72, [.slice none 0 0, .slice none 0 0, .slice none 0 0]⟩
theorem t40 : TyOk Tryd.prog 40 i40 := ⟨⟨_, Tryd.underlying40, rfl⟩, by kernel_rfl⟩
theorem z40 : ZOk Tryd.prog 40 i40 := ⟨t40, rfl⟩
theorem p40 : Places Tryd.prog [(0, 22), (1, 22), (2, 38)] [(0, 1), (1, 1), (2, 1)] := by unfold Places; kernel_rfl
def i42 : TI := ⟨.sl 97, 1, 24, [.slice none 0 0]⟩
theorem t42 : TyOk Tryd.prog 42 i42 := ⟨Tryd.underlying42, by kernel_rfl⟩
theorem z42 : ZOk Tryd.prog 42 i42 := ⟨t42, rfl⟩
def i44 : TI := ⟨.st [(0, 4), (1, 42), (2, 42)], 3, 56, [.bool false, .slice none 0 0, .slice none 0 0]⟩
theorem t44 : TyOk Tryd.prog 44 i44 := ⟨⟨_, Tryd.underlying44, rfl⟩, by kernel_rfl⟩
theorem z44 : ZOk Tryd.prog 44 i44 := ⟨t44, rfl⟩
theorem p44 : Places Tryd.prog [(0, 4), (1, 42), (2, 42)] [(0, 1), (1, 1), (2, 1)] := by unfold Places; kernel_rfl
def i92 : TI := ⟨.st [(0, 9), (1, 2)], 2, 24, [.string .empty, .int .i64 0]⟩
theorem t92 : TyOk Tryd.prog 92 i92 := ⟨⟨_, Tryd.underlying92, rfl⟩, by kernel_rfl⟩
theorem z92 : ZOk Tryd.prog 92 i92 := ⟨t92, rfl⟩
theorem p92 : Places Tryd.prog [(0, 9), (1, 2)] [(0, 1), (1, 1)] := by unfold Places; kernel_rfl
def i97 : TI := ⟨.st [(0, 2), (1, 2)], 2, 16, [.int .i64 0, .int .i64 0]⟩
theorem t97 : TyOk Tryd.prog 97 i97 := ⟨⟨_, Tryd.underlying97, rfl⟩, by kernel_rfl⟩
theorem z97 : ZOk Tryd.prog 97 i97 := ⟨t97, rfl⟩
theorem p97 : Places Tryd.prog [(0, 2), (1, 2)] [(0, 1), (1, 1)] := by unfold Places; kernel_rfl
def i98 : TI := ⟨.st [(0, 9), (1, 2)], 2, 24, [.string .empty, .int .i64 0]⟩
theorem t98 : TyOk Tryd.prog 98 i98 := ⟨⟨_, Tryd.underlying98, rfl⟩, by kernel_rfl⟩
theorem z98 : ZOk Tryd.prog 98 i98 := ⟨t98, rfl⟩
theorem p98 : Places Tryd.prog [(0, 9), (1, 2)] [(0, 1), (1, 1)] := by unfold Places; kernel_rfl
def i102 : TI := ⟨.st [(0, 2), (1, 2)], 2, 16, [.int .i64 0, .int .i64 0]⟩
theorem t102 : TyOk Tryd.prog 102 i102 := ⟨⟨_, Tryd.underlying102, rfl⟩, by kernel_rfl⟩
theorem z102 : ZOk Tryd.prog 102 i102 := ⟨t102, rfl⟩
theorem p102 : Places Tryd.prog [(0, 2), (1, 2)] [(0, 1), (1, 1)] := by unfold Places; kernel_rfl
theorem c_szStringS (a : List ByteArray) (left : Int) (hl : 0 ≤ left ∧ left ≤ 1048576) (hw : ∀ x ∈ a, 0 ≤ strW x ∧ strW x ≤ 9223372036854775807) : Trip Tryd.prog 24 [(false, 1), (false, 1)] ([.sl false 9 1 (List.map strc (a))] ++ [.v (.int .i64 (left))]) [(false, 1)] [.v (.int .i64 (szL strW a left))] [] := by
  refine Trip.of Tryd.func24 (by decide) (c := _) rfl rfl (shB_ok rfl) (Nat.le_of_ble_eq_true rfl) rfl (AftOk.nil _) ?_
  refine .sat (t := 0) rfl (fun hs1 => ?_)
  have hs1l : a.length ≤ 9223372036854775807 := hs1.maplen
  refine .seq ?_
  refine .reg (X := Unit) (fun ζ => .of [(0, .one (.d (.sl false 9 1 (List.map strc (a))))), (1, .one (.d (.v (.int .i64 (left)))))] []) [⟨[], some 4, [], []⟩] (fun k2 => ?_) ?_
  · skip
    refine .assign (.no rfl) rfl rfl rfl rfl ?_
    exact .fin () (.of (.cons rfl (.cons rfl .nil)) .nil)
  intro _
  refine .seq ?_
  refine .reg (X := Unit) (fun ζ => .of [(0, .one (.d (.sl false 9 1 (List.map strc (a))))), (1, .one (.d (.v (.int .i64 (IntKind.wrap .i64 (left - (a.length : Int)))))))] []) [⟨[1], some 6, [], []⟩, ⟨[0], some 7, [], []⟩, ⟨[7], some 8, [], []⟩, ⟨[6, 8], some 9, [], []⟩, ⟨[9], some 1, [], []⟩] (fun k3 => ?_) ?_
  · skip
    refine .move (.no rfl) rfl rfl rfl rfl ?_
    refine .move (.no rfl) rfl rfl rfl rfl ?_
    refine .len (.no rfl) rfl (z := (a.length : Int)) t22 rfl rfl rfl (.d _ _) (map_len _ _) rfl ?_
    refine .bin (.no rfl) rfl rfl rfl rfl rfl rfl ?_
    refine .assign (.no rfl) rfl rfl rfl rfl ?_
    exact .fin () (.of (.cons rfl (.cons rfl .nil)) .nil)
  intro _
  refine .seq ?_
  refine .seq ?_
  refine .reg (X := Unit) (fun ζ => .of [(0, .one (.d (.sl false 9 1 (List.map strc (a))))), (1, .one (.d (.v (.int .i64 (IntKind.wrap .i64 (left - (a.length : Int))))))), (11, .one (.d (.v (.bool (decide ((IntKind.wrap .i64 (left - (a.length : Int))) < 0))))))] []) [⟨[1], some 10, [], []⟩, ⟨[10], some 11, [], []⟩] (fun k4 => ?_) ?_
  · skip
    refine .move (.no rfl) rfl rfl rfl rfl ?_
    refine .bin (.no rfl) rfl rfl rfl rfl rfl rfl ?_
    exact .fin () (.of (.cons rfl (.cons rfl (.cons rfl .nil))) .nil)
  intro _
  refine .cond (t := decide ((IntKind.wrap .i64 (left - (a.length : Int))) < 0)) rfl (fun c0 => ?_) (fun c0 => ?_)
  · have c0 := of_decide_eq_true c0
    refine .seq ?_
    refine .reg (X := Unit) (fun ζ => .of [(4, .one (.d (.v (.int .i64 (-1)))))] []) [⟨[], some 4, [], []⟩] (fun k5 => ?_) ?_
    · skip
      refine .assign (.no rfl) rfl rfl rfl rfl ?_
      exact .fin () (.of (.cons rfl .nil) .nil)
    intro _
    refine .ret ?_
    have e6 : (-1) = (szL strW a left) := by (rw [wrap_le (by omega) (by omega)] at c0; simp only [szL]; rw [if_pos c0])
    have hc7 := eq1 (fun z1 => SV.one (.d (.v (.int .i64 (z1))))) e6
    show _ ∧ _
    exact ⟨.inr rfl, .done ⟨_, [], [], _, .one (c := .d (.v (.int .i64 (szL strW a left)))) (hc7) .nil, .cons (Reads.d _).gives .nil, nodupB_ok rfl, by simp, (by simp)⟩⟩
  · have c0 := of_decide_eq_false c0
    refine .skip ?_
    refine .seq ?_
    refine .seq ?_
    refine .reg (X := Unit) (fun ζ => .of [(0, .one (.d (.sl false 9 1 (List.map strc (a))))), (1, .one (.d (.v (.int .i64 (IntKind.wrap .i64 (left - (a.length : Int))))))), (5, .one (.d (.v (.int .i64 (0)))))] []) [⟨[], some 5, [], []⟩] (fun k8 => ?_) ?_
    · skip
      refine .assign (.no rfl) rfl rfl rfl rfl ?_
      exact .fin () (.of (.cons rfl (.cons rfl (.cons rfl .nil))) .nil)
    intro _
    refine .block ?_
    refine .loop (X := Nat × Int) (fun ζ => .of [(0, .one (.d (.sl false 9 1 (List.map strc (a))))), (1, .one (.d (.v (.int .i64 (ζ.2))))), (5, .one (.d (.v (.int .i64 ((ζ.1 : Int))))))] []) (fun ζ => ζ.1 ≤ a.length ∧ 0 ≤ ζ.2 ∧ ζ.2 ≤ 1048576 ∧ ¬ left - a.length < 0 ∧ szGo strW ζ.2 (a.drop ζ.1) = szGo strW (left - a.length) a) (fun ζ => a.length - ζ.1) ?_ ?_
    · skip
      exact .here (0, (left - a.length)) (.of (.cons rfl (.cons (svI (show (IntKind.wrap .i64 (left - (a.length : Int))) = ((left - a.length)) by first | rfl | omega | exact wrap_le (by omega) (by omega) | (rw [wrap_le (by omega) (by omega)]; omega) | (have hx : 0 ≤ strW (a.getD j default) ∧ strW (a.getD j default) ≤ 9223372036854775807 := hw _ (getD_mem (by omega)); exact wrap_le (a := v - strW (a.getD j default)) (by omega) (by omega)))) (.cons (svI (show (0) = ((0 : Int)) by first | rfl | omega | exact wrap_le (by omega) (by omega) | (rw [wrap_le (by omega) (by omega)]; omega) | (have hx : 0 ≤ strW (a.getD j default) ∧ strW (a.getD j default) ≤ 9223372036854775807 := hw _ (getD_mem (by omega)); exact wrap_le (a := v - strW (a.getD j default)) (by omega) (by omega)))) .nil))) .nil) (show 0 ≤ a.length ∧ 0 ≤ (left - a.length) ∧ (left - a.length) ≤ 1048576 ∧ ¬ left - a.length < 0 ∧ szGo strW (left - a.length) (a.drop 0) = szGo strW (left - a.length) a by (rw [wrap_le (by omega) (by omega)] at c0; exact ⟨by omega, by omega, by omega, c0, by simp⟩))
    · rintro ⟨j, v⟩ hI
      have hI : j ≤ a.length ∧ 0 ≤ v ∧ v ≤ 1048576 ∧ ¬ left - a.length < 0 ∧ szGo strW v (a.drop j) = szGo strW (left - a.length) a := hI
      refine .seq ?_
      refine .seq ?_
      refine .reg (X := Unit) (fun ζ => .of [(0, .one (.d (.sl false 9 1 (List.map strc (a))))), (1, .one (.d (.v (.int .i64 (v))))), (5, .one (.d (.v (.int .i64 ((j : Int)))))), (15, .one (.d (.v (.bool (decide ((j : Int) < (a.length : Int)))))))] []) [⟨[5], some 12, [], []⟩, ⟨[0], some 13, [], []⟩, ⟨[13], some 14, [], []⟩, ⟨[12, 14], some 15, [], []⟩] (fun k9 => ?_) ?_
      · skip
        refine .move (.no rfl) rfl rfl rfl rfl ?_
        refine .move (.no rfl) rfl rfl rfl rfl ?_
        refine .len (.no rfl) rfl (z := (a.length : Int)) t22 rfl rfl rfl (.d _ _) (map_len _ _) rfl ?_
        refine .bin (.no rfl) rfl rfl rfl rfl rfl rfl ?_
        exact .fin () (.of (.cons rfl (.cons rfl (.cons rfl (.cons rfl .nil)))) .nil)
      intro _
      refine .cond (t := decide ((j : Int) < (a.length : Int))) rfl (fun c1 => ?_) (fun c1 => ?_)
      · have c1 := of_decide_eq_true c1
        refine .skip ?_
        refine .seq ?_
        refine .block ?_
        refine .seq ?_
        refine .reg (X := Unit) (fun ζ => .of [(0, .one (.d (.sl false 9 1 (List.map strc (a))))), (1, .one (.d (.v (.int .i64 (IntKind.wrap .i64 (v - ((a.getD j default).size : Int))))))), (5, .one (.d (.v (.int .i64 ((j : Int))))))] []) [⟨[1], some 18, [], []⟩, ⟨[0], some 19, [], []⟩, ⟨[5], some 20, [], []⟩, ⟨[19, 20], some 21, [], []⟩, ⟨[21], some 22, [], []⟩, ⟨[22], some 23, [], []⟩, ⟨[18, 23], some 24, [], []⟩, ⟨[24], some 1, [], []⟩] (fun k10 => ?_) ?_
        · skip
          refine .move (.no rfl) rfl rfl rfl rfl ?_
          refine .move (.no rfl) rfl rfl rfl rfl ?_
          refine .move (.no rfl) rfl rfl rfl rfl ?_
          refine .indexAddr (.no rfl) rfl (j) t22 rfl t9 rfl rfl rfl (.d _ _) rfl rfl rfl (map_get (by omega)) rfl rfl ?_
          refine .load (.no rfl) rfl t9 rfl rfl (.d _) rfl rfl rfl rfl ?_
          refine .lenStr (.no rfl) rfl t9 rfl rfl rfl rfl rfl ?_
          refine .bin (.no rfl) rfl rfl rfl rfl rfl rfl ?_
          refine .assign (.no rfl) rfl rfl rfl rfl ?_
          exact .fin () (.of (.cons rfl (.cons rfl (.cons rfl .nil))) .nil)
        intro _
        refine .seq ?_
        refine .reg (X := Unit) (fun ζ => .of [(0, .one (.d (.sl false 9 1 (List.map strc (a))))), (1, .one (.d (.v (.int .i64 (IntKind.wrap .i64 (v - ((a.getD j default).size : Int))))))), (5, .one (.d (.v (.int .i64 ((j : Int)))))), (26, .one (.d (.v (.bool (decide ((IntKind.wrap .i64 (v - ((a.getD j default).size : Int))) < 0))))))] []) [⟨[1], some 25, [], []⟩, ⟨[25], some 26, [], []⟩] (fun k11 => ?_) ?_
        · skip
          refine .move (.no rfl) rfl rfl rfl rfl ?_
          refine .bin (.no rfl) rfl rfl rfl rfl rfl rfl ?_
          exact .fin () (.of (.cons rfl (.cons rfl (.cons rfl (.cons rfl .nil)))) .nil)
        intro _
        refine .cond (t := decide ((IntKind.wrap .i64 (v - ((a.getD j default).size : Int))) < 0)) rfl (fun c2 => ?_) (fun c2 => ?_)
        · have c2 := of_decide_eq_true c2
          refine .seq ?_
          refine .reg (X := Unit) (fun ζ => .of [(4, .one (.d (.v (.int .i64 (-1)))))] []) [⟨[], some 4, [], []⟩] (fun k12 => ?_) ?_
          · skip
            refine .assign (.no rfl) rfl rfl rfl rfl ?_
            exact .fin () (.of (.cons rfl .nil) .nil)
          intro _
          refine .ret ?_
          have e13 : (-1) = (szL strW a left) := by (have hx : 0 ≤ strW (a.getD j default) ∧ strW (a.getD j default) ≤ 9223372036854775807 := hw _ (getD_mem (by omega)); change IntKind.wrap .i64 (v - strW (a.getD j default)) < 0 at c2; rw [wrap_le (by omega) (by omega)] at c2; simp only [szL]; rw [if_neg hI.2.2.2.1, ← hI.2.2.2.2, szGo_fail (by omega) c2])
          have hc14 := eq1 (fun z1 => SV.one (.d (.v (.int .i64 (z1))))) e13
          show _ ∧ _
          exact ⟨.inr rfl, .done ⟨_, [], [], _, .one (c := .d (.v (.int .i64 (szL strW a left)))) (hc14) .nil, .cons (Reads.d _).gives .nil, nodupB_ok rfl, by simp, (by simp)⟩⟩
        · have c2 := of_decide_eq_false c2
          refine .skip ?_
          refine .reg (X := Unit) (fun ζ => .of [(0, .one (.d (.sl false 9 1 (List.map strc (a))))), (1, .one (.d (.v (.int .i64 (IntKind.wrap .i64 (v - ((a.getD j default).size : Int))))))), (5, .one (.d (.v (.int .i64 (IntKind.wrap .i64 ((j : Int) + 1))))))] []) [⟨[5], some 16, [], []⟩, ⟨[16], some 17, [], []⟩, ⟨[17], some 5, [], []⟩] (fun k15 => ?_) ?_
          · skip
            refine .move (.no rfl) rfl rfl rfl rfl ?_
            refine .bin (.no rfl) rfl rfl rfl rfl rfl rfl ?_
            refine .assign (.no rfl) rfl rfl rfl rfl ?_
            exact .fin () (.of (.cons rfl (.cons rfl (.cons rfl .nil))) .nil)
          intro _
          exact .here ((j + 1), (v - strW (a.getD j default))) (.of (.cons rfl (.cons (svI (show (IntKind.wrap .i64 (v - ((a.getD j default).size : Int))) = ((v - strW (a.getD j default))) by first | rfl | omega | exact wrap_le (by omega) (by omega) | (rw [wrap_le (by omega) (by omega)]; omega) | (have hx : 0 ≤ strW (a.getD j default) ∧ strW (a.getD j default) ≤ 9223372036854775807 := hw _ (getD_mem (by omega)); exact wrap_le (a := v - strW (a.getD j default)) (by omega) (by omega)))) (.cons (svI (show (IntKind.wrap .i64 ((j : Int) + 1)) = (((j + 1) : Int)) by first | rfl | omega | exact wrap_le (by omega) (by omega) | (rw [wrap_le (by omega) (by omega)]; omega) | (have hx : 0 ≤ strW (a.getD j default) ∧ strW (a.getD j default) ≤ 9223372036854775807 := hw _ (getD_mem (by omega)); exact wrap_le (a := v - strW (a.getD j default)) (by omega) (by omega)))) .nil))) .nil) ⟨(show (j + 1) ≤ a.length ∧ 0 ≤ (v - strW (a.getD j default)) ∧ (v - strW (a.getD j default)) ≤ 1048576 ∧ ¬ left - a.length < 0 ∧ szGo strW (v - strW (a.getD j default)) (a.drop (j + 1)) = szGo strW (left - a.length) a by (have hx : 0 ≤ strW (a.getD j default) ∧ strW (a.getD j default) ≤ 9223372036854775807 := hw _ (getD_mem (by omega)); change ¬ IntKind.wrap .i64 (v - strW (a.getD j default)) < 0 at c2; rw [wrap_le (by omega) (by omega)] at c2; exact ⟨by omega, by omega, by omega, hI.2.2.2.1, by rw [← hI.2.2.2.2]; exact (szGo_step (by omega) c2).symm⟩)), (show a.length - (j + 1) < a.length - j by omega)⟩
      · have c1 := of_decide_eq_false c1
        refine .exit ?_
        refine .seq ?_
        refine .reg (X := Unit) (fun ζ => .of [(4, .one (.d (.v (.int .i64 (v)))))] []) [⟨[1], some 27, [], []⟩, ⟨[27], some 4, [], []⟩] (fun k16 => ?_) ?_
        · skip
          refine .move (.no rfl) rfl rfl rfl rfl ?_
          refine .assign (.no rfl) rfl rfl rfl rfl ?_
          exact .fin () (.of (.cons rfl .nil) .nil)
        intro _
        refine .ret ?_
        have e17 : (v) = (szL strW a left) := by (simp only [szL]; rw [if_neg hI.2.2.2.1, ← hI.2.2.2.2, szGo_end (by omega)])
        have hc18 := eq1 (fun z1 => SV.one (.d (.v (.int .i64 (z1))))) e17
        show _ ∧ _
        exact ⟨.inr rfl, .done ⟨_, [], [], _, .one (c := .d (.v (.int .i64 (szL strW a left)))) (hc18) .nil, .cons (Reads.d _).gives .nil, nodupB_ok rfl, by simp, (by simp)⟩⟩
theorem c_szArr (a : Arr) (left : Int) (hl : 0 ≤ left ∧ left ≤ 1048576) (hw : a.name.size ≤ 9223372036854775807) : Trip Tryd.prog 57 [(true, 2), (false, 1)] (Arr.c a ++ [.v (.int .i64 (left))]) [(false, 1)] [.v (.int .i64 (szA a left))] [] := by
  refine Trip.of Tryd.func57 (by decide) (c := _) rfl rfl (shB_ok rfl) (Nat.le_of_ble_eq_true rfl) rfl (AftOk.nil _) ?_
  refine .seq ?_
  refine .reg (X := Nat) (fun ζ => .of [(1, .one (.d (.v (.int .i64 (left))))), (2, .one (.ptr [2] (ζ) 0))] [([2], (ζ, ζ, .box [.d (.v (.string (a.name))), .d (.v (.int .i64 (a.size)))]))]) [⟨[0], some 2, [], [[2]]⟩, ⟨[], some 4, [], []⟩] (fun k1 => ?_) ?_
  · skip
    refine .box (.no rfl) rfl rfl rfl rfl rfl ?_
    refine .assign (.no rfl) rfl rfl rfl rfl ?_
    exact .fin k1 (.of (.cons rfl (.cons rfl .nil)) (.cons rfl .nil))
  intro g2
  refine .seq ?_
  refine .reg (X := Unit) (fun ζ => .of [(1, .one (.d (.v (.int .i64 (IntKind.wrap .i64 (left - (a.name.size : Int)))))))] []) [⟨[1], some 5, [], []⟩, ⟨[2], some 6, [], []⟩, ⟨[6], some 7, [[2]], []⟩, ⟨[7], some 8, [], []⟩, ⟨[5, 8], some 9, [], []⟩, ⟨[9], some 1, [], []⟩] (fun k3 => ?_) ?_
  · skip
    refine .move (.no rfl) rfl rfl rfl rfl ?_
    refine .fieldAddrP (.no rfl) rfl t92 rfl rfl t9 rfl rfl rfl rfl ?_
    refine .load (.no rfl) rfl t9 rfl rfl (.ptr _ _ _ _ _ rfl) rfl rfl rfl rfl ?_
    refine .lenStr (.no rfl) rfl t9 rfl rfl rfl rfl rfl ?_
    refine .bin (.no rfl) rfl rfl rfl rfl rfl rfl ?_
    refine .assign (.no rfl) rfl rfl rfl rfl ?_
    exact .fin () (.of (.cons rfl .nil) .nil)
  intro _
  refine .seq ?_
  refine .seq ?_
  refine .reg (X := Unit) (fun ζ => .of [(1, .one (.d (.v (.int .i64 (IntKind.wrap .i64 (left - (a.name.size : Int))))))), (11, .one (.d (.v (.bool (decide ((IntKind.wrap .i64 (left - (a.name.size : Int))) < 0))))))] []) [⟨[1], some 10, [], []⟩, ⟨[10], some 11, [], []⟩] (fun k4 => ?_) ?_
  · skip
    refine .move (.no rfl) rfl rfl rfl rfl ?_
    refine .bin (.no rfl) rfl rfl rfl rfl rfl rfl ?_
    exact .fin () (.of (.cons rfl (.cons rfl .nil)) .nil)
  intro _
  refine .cond (t := decide ((IntKind.wrap .i64 (left - (a.name.size : Int))) < 0)) rfl (fun c0 => ?_) (fun c0 => ?_)
  · have c0 := of_decide_eq_true c0
    refine .seq ?_
    refine .reg (X := Unit) (fun ζ => .of [(4, .one (.d (.v (.int .i64 (-1)))))] []) [⟨[], some 4, [], []⟩] (fun k5 => ?_) ?_
    · skip
      refine .assign (.no rfl) rfl rfl rfl rfl ?_
      exact .fin () (.of (.cons rfl .nil) .nil)
    intro _
    refine .ret ?_
    have e6 : (-1) = (szA a left) := by (rw [wrap_le (by omega) (by omega)] at c0; simp only [szA]; rw [if_pos c0])
    have hc7 := eq1 (fun z1 => SV.one (.d (.v (.int .i64 (z1))))) e6
    show _ ∧ _
    exact ⟨.inr rfl, .done ⟨_, [], [], _, .one (c := .d (.v (.int .i64 (szA a left)))) (hc7) .nil, .cons (Reads.d _).gives .nil, nodupB_ok rfl, by simp, (by simp)⟩⟩
  · have c0 := of_decide_eq_false c0
    refine .skip ?_
    refine .seq ?_
    refine .reg (X := Unit) (fun ζ => .of [(4, .one (.d (.v (.int .i64 (IntKind.wrap .i64 (left - (a.name.size : Int)))))))] []) [⟨[1], some 12, [], []⟩, ⟨[12], some 4, [], []⟩] (fun k8 => ?_) ?_
    · skip
      refine .move (.no rfl) rfl rfl rfl rfl ?_
      refine .assign (.no rfl) rfl rfl rfl rfl ?_
      exact .fin () (.of (.cons rfl .nil) .nil)
    intro _
    refine .ret ?_
    have e9 : (IntKind.wrap .i64 (left - (a.name.size : Int))) = (szA a left) := by (rw [wrap_le (by omega) (by omega)] at c0 ⊢; simp only [szA]; rw [if_neg c0])
    have hc10 := eq1 (fun z1 => SV.one (.d (.v (.int .i64 (z1))))) e9
    show _ ∧ _
    exact ⟨.inr rfl, .done ⟨_, [], [], _, .one (c := .d (.v (.int .i64 (szA a left)))) (hc10) .nil, .cons (Reads.d _).gives .nil, nodupB_ok rfl, by simp, (by simp)⟩⟩
theorem c_szArrS (a : List Arr) (left : Int) (hl : 0 ≤ left ∧ left ≤ 1048576) (hw : ∀ x ∈ a, 0 ≤ arrW x ∧ arrW x ≤ 9223372036854775807) : Trip Tryd.prog 25 [(false, 1), (false, 1)] ([.sl false 92 2 (List.map Arr.c (a))] ++ [.v (.int .i64 (left))]) [(false, 1)] [.v (.int .i64 (szL arrW a left))] [] := by
  refine Trip.of Tryd.func25 (by decide) (c := _) rfl rfl (shB_ok rfl) (Nat.le_of_ble_eq_true rfl) rfl (AftOk.nil _) ?_
  refine .sat (t := 0) rfl (fun hs1 => ?_)
  have hs1l : a.length ≤ 9223372036854775807 := hs1.maplen
  refine .seq ?_
  refine .reg (X := Unit) (fun ζ => .of [(0, .one (.d (.sl false 92 2 (List.map Arr.c (a))))), (1, .one (.d (.v (.int .i64 (left)))))] []) [⟨[], some 4, [], []⟩] (fun k2 => ?_) ?_
  · skip
    refine .assign (.no rfl) rfl rfl rfl rfl ?_
    exact .fin () (.of (.cons rfl (.cons rfl .nil)) .nil)
  intro _
  refine .seq ?_
  refine .reg (X := Unit) (fun ζ => .of [(0, .one (.d (.sl false 92 2 (List.map Arr.c (a))))), (1, .one (.d (.v (.int .i64 (IntKind.wrap .i64 (left - (a.length : Int)))))))] []) [⟨[1], some 6, [], []⟩, ⟨[0], some 7, [], []⟩, ⟨[7], some 8, [], []⟩, ⟨[6, 8], some 9, [], []⟩, ⟨[9], some 1, [], []⟩] (fun k3 => ?_) ?_
  · skip
    refine .move (.no rfl) rfl rfl rfl rfl ?_
    refine .move (.no rfl) rfl rfl rfl rfl ?_
    refine .len (.no rfl) rfl (z := (a.length : Int)) t23 rfl rfl rfl (.d _ _) (map_len _ _) rfl ?_
    refine .bin (.no rfl) rfl rfl rfl rfl rfl rfl ?_
    refine .assign (.no rfl) rfl rfl rfl rfl ?_
    exact .fin () (.of (.cons rfl (.cons rfl .nil)) .nil)
  intro _
  refine .seq ?_
  refine .seq ?_
  refine .reg (X := Unit) (fun ζ => .of [(0, .one (.d (.sl false 92 2 (List.map Arr.c (a))))), (1, .one (.d (.v (.int .i64 (IntKind.wrap .i64 (left - (a.length : Int))))))), (11, .one (.d (.v (.bool (decide ((IntKind.wrap .i64 (left - (a.length : Int))) < 0))))))] []) [⟨[1], some 10, [], []⟩, ⟨[10], some 11, [], []⟩] (fun k4 => ?_) ?_
  · skip
    refine .move (.no rfl) rfl rfl rfl rfl ?_
    refine .bin (.no rfl) rfl rfl rfl rfl rfl rfl ?_
    exact .fin () (.of (.cons rfl (.cons rfl (.cons rfl .nil))) .nil)
  intro _
  refine .cond (t := decide ((IntKind.wrap .i64 (left - (a.length : Int))) < 0)) rfl (fun c0 => ?_) (fun c0 => ?_)
  · have c0 := of_decide_eq_true c0
    refine .seq ?_
    refine .reg (X := Unit) (fun ζ => .of [(4, .one (.d (.v (.int .i64 (-1)))))] []) [⟨[], some 4, [], []⟩] (fun k5 => ?_) ?_
    · skip
      refine .assign (.no rfl) rfl rfl rfl rfl ?_
      exact .fin () (.of (.cons rfl .nil) .nil)
    intro _
    refine .ret ?_
    have e6 : (-1) = (szL arrW a left) := by (rw [wrap_le (by omega) (by omega)] at c0; simp only [szL]; rw [if_pos c0])
    have hc7 := eq1 (fun z1 => SV.one (.d (.v (.int .i64 (z1))))) e6
    show _ ∧ _
    exact ⟨.inr rfl, .done ⟨_, [], [], _, .one (c := .d (.v (.int .i64 (szL arrW a left)))) (hc7) .nil, .cons (Reads.d _).gives .nil, nodupB_ok rfl, by simp, (by simp)⟩⟩
  · have c0 := of_decide_eq_false c0
    refine .skip ?_
    refine .seq ?_
    refine .seq ?_
    refine .reg (X := Unit) (fun ζ => .of [(0, .one (.d (.sl false 92 2 (List.map Arr.c (a))))), (1, .one (.d (.v (.int .i64 (IntKind.wrap .i64 (left - (a.length : Int))))))), (5, .one (.d (.v (.int .i64 (0)))))] []) [⟨[], some 5, [], []⟩] (fun k8 => ?_) ?_
    · skip
      refine .assign (.no rfl) rfl rfl rfl rfl ?_
      exact .fin () (.of (.cons rfl (.cons rfl (.cons rfl .nil))) .nil)
    intro _
    refine .block ?_
    refine .loop (X := Nat × Int) (fun ζ => .of [(0, .one (.d (.sl false 92 2 (List.map Arr.c (a))))), (1, .one (.d (.v (.int .i64 (ζ.2))))), (5, .one (.d (.v (.int .i64 ((ζ.1 : Int))))))] []) (fun ζ => ζ.1 ≤ a.length ∧ 0 ≤ ζ.2 ∧ ζ.2 ≤ 1048576 ∧ ¬ left - a.length < 0 ∧ szGo arrW ζ.2 (a.drop ζ.1) = szGo arrW (left - a.length) a) (fun ζ => a.length - ζ.1) ?_ ?_
    · skip
      exact .here (0, (left - a.length)) (.of (.cons rfl (.cons (svI (show (IntKind.wrap .i64 (left - (a.length : Int))) = ((left - a.length)) by first | rfl | omega | exact wrap_le (by omega) (by omega) | (rw [wrap_le (by omega) (by omega)]; omega) | (rw [szA_neg] at c2; simp only [szA, arrW] at c2 ⊢; rw [if_neg c2]))) (.cons (svI (show (0) = ((0 : Int)) by first | rfl | omega | exact wrap_le (by omega) (by omega) | (rw [wrap_le (by omega) (by omega)]; omega) | (rw [szA_neg] at c2; simp only [szA, arrW] at c2 ⊢; rw [if_neg c2]))) .nil))) .nil) (show 0 ≤ a.length ∧ 0 ≤ (left - a.length) ∧ (left - a.length) ≤ 1048576 ∧ ¬ left - a.length < 0 ∧ szGo arrW (left - a.length) (a.drop 0) = szGo arrW (left - a.length) a by (rw [wrap_le (by omega) (by omega)] at c0; exact ⟨by omega, by omega, by omega, c0, by simp⟩))
    · rintro ⟨j, v⟩ hI
      have hI : j ≤ a.length ∧ 0 ≤ v ∧ v ≤ 1048576 ∧ ¬ left - a.length < 0 ∧ szGo arrW v (a.drop j) = szGo arrW (left - a.length) a := hI
      refine .seq ?_
      refine .seq ?_
      refine .reg (X := Unit) (fun ζ => .of [(0, .one (.d (.sl false 92 2 (List.map Arr.c (a))))), (1, .one (.d (.v (.int .i64 (v))))), (5, .one (.d (.v (.int .i64 ((j : Int)))))), (15, .one (.d (.v (.bool (decide ((j : Int) < (a.length : Int)))))))] []) [⟨[5], some 12, [], []⟩, ⟨[0], some 13, [], []⟩, ⟨[13], some 14, [], []⟩, ⟨[12, 14], some 15, [], []⟩] (fun k9 => ?_) ?_
      · skip
        refine .move (.no rfl) rfl rfl rfl rfl ?_
        refine .move (.no rfl) rfl rfl rfl rfl ?_
        refine .len (.no rfl) rfl (z := (a.length : Int)) t23 rfl rfl rfl (.d _ _) (map_len _ _) rfl ?_
        refine .bin (.no rfl) rfl rfl rfl rfl rfl rfl ?_
        exact .fin () (.of (.cons rfl (.cons rfl (.cons rfl (.cons rfl .nil)))) .nil)
      intro _
      refine .cond (t := decide ((j : Int) < (a.length : Int))) rfl (fun c1 => ?_) (fun c1 => ?_)
      · have c1 := of_decide_eq_true c1
        refine .skip ?_
        refine .seq ?_
        refine .block ?_
        refine .seq ?_
        refine .reg (X := Unit) (fun ζ => .of [(0, .one (.d (.sl false 92 2 (List.map Arr.c (a))))), (1, .one (.d (.v (.int .i64 (szA (a.getD j default) v))))), (5, .one (.d (.v (.int .i64 ((j : Int))))))] []) [⟨[0], some 18, [], []⟩, ⟨[5], some 19, [], []⟩, ⟨[18, 19], some 20, [], []⟩, ⟨[20], some 21, [], []⟩, ⟨[1], some 22, [], []⟩, ⟨[21, 22], some 23, [], []⟩, ⟨[23], some 1, [], []⟩] (fun k10 => ?_) ?_
        · skip
          refine .move (.no rfl) rfl rfl rfl rfl ?_
          refine .move (.no rfl) rfl rfl rfl rfl ?_
          refine .indexAddr (.no rfl) rfl (j) t23 rfl t92 rfl rfl rfl (.d _ _) rfl rfl rfl (map_get (by omega)) rfl rfl ?_
          refine .load (.no rfl) rfl t92 rfl rfl (.d _) rfl rfl rfl rfl ?_
          refine .move (.no rfl) rfl rfl rfl rfl ?_
          refine .call (.no rfl) rfl [] [] (c_szArr (a.getD j default) v (by first | exact ⟨hI.2.1, hI.2.2.1⟩ | (have hx := (hw _ (getD_mem (j := j) (by omega))).2; simp only [arrW] at hx; omega)) (by first | exact ⟨hI.2.1, hI.2.2.1⟩ | (have hx := (hw _ (getD_mem (j := j) (by omega))).2; simp only [arrW] at hx; omega))) rfl rfl rfl rfl rfl (.cons (Reads.d _).gives (.cons (Reads.d _).gives (.cons (Reads.d _).gives .nil))) rfl rfl (fun h => absurd rfl h) (.own [23, 0] .nil) (.nil) rfl rfl rfl (by simp) rfl rfl rfl ?_
          refine .assign (.no rfl) rfl rfl rfl rfl ?_
          exact .fin () (.of (.cons rfl (.cons rfl (.cons rfl .nil))) .nil)
        intro _
        refine .seq ?_
        refine .reg (X := Unit) (fun ζ => .of [(0, .one (.d (.sl false 92 2 (List.map Arr.c (a))))), (1, .one (.d (.v (.int .i64 (szA (a.getD j default) v))))), (5, .one (.d (.v (.int .i64 ((j : Int)))))), (25, .one (.d (.v (.bool (decide ((szA (a.getD j default) v) < 0))))))] []) [⟨[1], some 24, [], []⟩, ⟨[24], some 25, [], []⟩] (fun k11 => ?_) ?_
        · skip
          refine .move (.no rfl) rfl rfl rfl rfl ?_
          refine .bin (.no rfl) rfl rfl rfl rfl rfl rfl ?_
          exact .fin () (.of (.cons rfl (.cons rfl (.cons rfl (.cons rfl .nil)))) .nil)
        intro _
        refine .cond (t := decide ((szA (a.getD j default) v) < 0)) rfl (fun c2 => ?_) (fun c2 => ?_)
        · have c2 := of_decide_eq_true c2
          refine .seq ?_
          refine .reg (X := Unit) (fun ζ => .of [(4, .one (.d (.v (.int .i64 (-1)))))] []) [⟨[], some 4, [], []⟩] (fun k12 => ?_) ?_
          · skip
            refine .assign (.no rfl) rfl rfl rfl rfl ?_
            exact .fin () (.of (.cons rfl .nil) .nil)
          intro _
          refine .ret ?_
          have e13 : (-1) = (szL arrW a left) := by (rw [szA_neg] at c2; simp only [szL]; rw [if_neg hI.2.2.2.1, ← hI.2.2.2.2, szGo_fail (by omega) c2])
          have hc14 := eq1 (fun z1 => SV.one (.d (.v (.int .i64 (z1))))) e13
          show _ ∧ _
          exact ⟨.inr rfl, .done ⟨_, [], [], _, .one (c := .d (.v (.int .i64 (szL arrW a left)))) (hc14) .nil, .cons (Reads.d _).gives .nil, nodupB_ok rfl, by simp, (by simp)⟩⟩
        · have c2 := of_decide_eq_false c2
          refine .skip ?_
          refine .reg (X := Unit) (fun ζ => .of [(0, .one (.d (.sl false 92 2 (List.map Arr.c (a))))), (1, .one (.d (.v (.int .i64 (szA (a.getD j default) v))))), (5, .one (.d (.v (.int .i64 (IntKind.wrap .i64 ((j : Int) + 1))))))] []) [⟨[5], some 16, [], []⟩, ⟨[16], some 17, [], []⟩, ⟨[17], some 5, [], []⟩] (fun k15 => ?_) ?_
          · skip
            refine .move (.no rfl) rfl rfl rfl rfl ?_
            refine .bin (.no rfl) rfl rfl rfl rfl rfl rfl ?_
            refine .assign (.no rfl) rfl rfl rfl rfl ?_
            exact .fin () (.of (.cons rfl (.cons rfl (.cons rfl .nil))) .nil)
          intro _
          exact .here ((j + 1), (v - arrW (a.getD j default))) (.of (.cons rfl (.cons (svI (show (szA (a.getD j default) v) = ((v - arrW (a.getD j default))) by first | rfl | omega | exact wrap_le (by omega) (by omega) | (rw [wrap_le (by omega) (by omega)]; omega) | (rw [szA_neg] at c2; simp only [szA, arrW] at c2 ⊢; rw [if_neg c2]))) (.cons (svI (show (IntKind.wrap .i64 ((j : Int) + 1)) = (((j + 1) : Int)) by first | rfl | omega | exact wrap_le (by omega) (by omega) | (rw [wrap_le (by omega) (by omega)]; omega) | (rw [szA_neg] at c2; simp only [szA, arrW] at c2 ⊢; rw [if_neg c2]))) .nil))) .nil) ⟨(show (j + 1) ≤ a.length ∧ 0 ≤ (v - arrW (a.getD j default)) ∧ (v - arrW (a.getD j default)) ≤ 1048576 ∧ ¬ left - a.length < 0 ∧ szGo arrW (v - arrW (a.getD j default)) (a.drop (j + 1)) = szGo arrW (left - a.length) a by (have hx : 0 ≤ arrW (a.getD j default) ∧ arrW (a.getD j default) ≤ 9223372036854775807 := hw _ (getD_mem (by omega)); rw [szA_neg] at c2; exact ⟨by omega, by omega, by omega, hI.2.2.2.1, by rw [← hI.2.2.2.2]; exact (szGo_step (by omega) c2).symm⟩)), (show a.length - (j + 1) < a.length - j by omega)⟩
      · have c1 := of_decide_eq_false c1
        refine .exit ?_
        refine .seq ?_
        refine .reg (X := Unit) (fun ζ => .of [(4, .one (.d (.v (.int .i64 (v)))))] []) [⟨[1], some 26, [], []⟩, ⟨[26], some 4, [], []⟩] (fun k16 => ?_) ?_
        · skip
          refine .move (.no rfl) rfl rfl rfl rfl ?_
          refine .assign (.no rfl) rfl rfl rfl rfl ?_
          exact .fin () (.of (.cons rfl .nil) .nil)
        intro _
        refine .ret ?_
        have e17 : (v) = (szL arrW a left) := by (simp only [szL]; rw [if_neg hI.2.2.2.1, ← hI.2.2.2.2, szGo_end (by omega)])
        have hc18 := eq1 (fun z1 => SV.one (.d (.v (.int .i64 (z1))))) e17
        show _ ∧ _
        exact ⟨.inr rfl, .done ⟨_, [], [], _, .one (c := .d (.v (.int .i64 (szL arrW a left)))) (hc18) .nil, .cons (Reads.d _).gives .nil, nodupB_ok rfl, by simp, (by simp)⟩⟩
theorem c_szDecl (a : Decl) (left : Int) (hl : 0 ≤ left ∧ left ≤ 1048576) (hv : ∀ x ∈ a.vars, 0 ≤ strW x ∧ strW x ≤ 9223372036854775807) (hf : ∀ x ∈ a.flags, 0 ≤ strW x ∧ strW x ≤ 9223372036854775807) (ha : ∀ x ∈ a.arrays, 0 ≤ arrW x ∧ arrW x ≤ 9223372036854775807) : Trip Tryd.prog 5 [(true, 3), (false, 1)] (Decl.c25 a ++ [.v (.int .i64 (left))]) [(false, 1)] [.v (.int .i64 (szDecl a left))] [] := by
  refine Trip.of Tryd.func5 (by decide) (c := _) rfl rfl (shB_ok rfl) (Nat.le_of_ble_eq_true rfl) rfl (AftOk.nil _) ?_
  refine .satA (t := 0) (i := 0) rfl rfl (fun hs1 => ?_)
  have hs1l : a.vars.length ≤ 9223372036854775807 := hs1.maplen
  refine .satA (t := 0) (i := 1) rfl rfl (fun hs2 => ?_)
  have hs2l : a.flags.length ≤ 9223372036854775807 := hs2.maplen
  refine .satA (t := 0) (i := 2) rfl rfl (fun hs3 => ?_)
  have hs3l : a.arrays.length ≤ 9223372036854775807 := hs3.maplen
  refine .seq ?_
  refine .reg (X := Nat) (fun ζ => .of [(1, .one (.d (.v (.int .i64 (left))))), (2, .one (.ptr [2] (ζ) 0))] [([2], (ζ, ζ, .box [.d (.sl false 9 1 (List.map strc (a.vars))), .d (.sl false 9 1 (List.map strc (a.flags))), .d (.sl false 92 2 (List.map Arr.c (a.arrays)))]))]) [⟨[0], some 2, [], [[2]]⟩, ⟨[], some 4, [], []⟩] (fun k4 => ?_) ?_
  · skip
    refine .box (.no rfl) rfl rfl rfl rfl rfl ?_
    refine .assign (.no rfl) rfl rfl rfl rfl ?_
    exact .fin k4 (.of (.cons rfl (.cons rfl .nil)) (.cons rfl .nil))
  intro g5
  refine .seq ?_
  refine .reg (X := Unit) (fun ζ => .of [(1, .one (.d (.v (.int .i64 (szL strW a.vars left))))), (2, .one (.ptr [2] (g5) 0))] [([2], (g5, g5, .box [.d (.sl false 9 1 (List.map strc (a.vars))), .d (.sl false 9 1 (List.map strc (a.flags))), .d (.sl false 92 2 (List.map Arr.c (a.arrays)))]))]) [⟨[2], some 5, [], []⟩, ⟨[5], some 6, [[2]], []⟩, ⟨[1], some 7, [], []⟩, ⟨[6, 7], some 8, [], []⟩, ⟨[8], some 1, [], []⟩] (fun k6 => ?_) ?_
  · skip
    refine .fieldAddrP (.no rfl) rfl t25 rfl rfl t22 rfl rfl rfl rfl ?_
    refine .load (.no rfl) rfl t22 rfl rfl (.ptr _ _ _ _ _ rfl) rfl rfl rfl rfl ?_
    refine .move (.no rfl) rfl rfl rfl rfl ?_
    refine .call (.no rfl) rfl [] [] (c_szStringS a.vars left (by first | assumption | exact ⟨by omega, szL_le (by omega) ‹_› (by first | omega | exact szL_le (by omega) ‹_› (by omega))⟩) (by first | assumption | exact ⟨by omega, szL_le (by omega) ‹_› (by first | omega | exact szL_le (by omega) ‹_› (by omega))⟩)) rfl rfl rfl rfl rfl (.cons (Reads.d _).gives (.cons (Reads.d _).gives .nil)) rfl rfl (fun h => absurd rfl h) (.own [8, 0] .nil) (.nil) rfl rfl rfl (by simp) rfl rfl rfl ?_
    refine .assign (.no rfl) rfl rfl rfl rfl ?_
    exact .fin () (.of (.cons rfl (.cons rfl .nil)) (.cons rfl .nil))
  intro _
  refine .seq ?_
  refine .seq ?_
  refine .reg (X := Unit) (fun ζ => .of [(1, .one (.d (.v (.int .i64 (szL strW a.vars left))))), (2, .one (.ptr [2] (g5) 0)), (10, .one (.d (.v (.bool (decide ((szL strW a.vars left) < 0))))))] [([2], (g5, g5, .box [.d (.sl false 9 1 (List.map strc (a.vars))), .d (.sl false 9 1 (List.map strc (a.flags))), .d (.sl false 92 2 (List.map Arr.c (a.arrays)))]))]) [⟨[1], some 9, [], []⟩, ⟨[9], some 10, [], []⟩] (fun k7 => ?_) ?_
  · skip
    refine .move (.no rfl) rfl rfl rfl rfl ?_
    refine .bin (.no rfl) rfl rfl rfl rfl rfl rfl ?_
    exact .fin () (.of (.cons rfl (.cons rfl (.cons rfl .nil))) (.cons rfl .nil))
  intro _
  refine .cond (t := decide ((szL strW a.vars left) < 0)) rfl (fun c0 => ?_) (fun c0 => ?_)
  · have c0 := of_decide_eq_true c0
    refine .seq ?_
    refine .reg (X := Unit) (fun ζ => .of [(4, .one (.d (.v (.int .i64 (-1)))))] []) [⟨[], some 4, [], []⟩] (fun k8 => ?_) ?_
    · skip
      refine .assign (.no rfl) rfl rfl rfl rfl ?_
      exact .fin () (.of (.cons rfl .nil) .nil)
    intro _
    refine .ret ?_
    have e9 : (-1) = (szDecl a left) := by (simp only [szDecl]; rw [if_pos c0])
    have hc10 := eq1 (fun z1 => SV.one (.d (.v (.int .i64 (z1))))) e9
    show _ ∧ _
    exact ⟨.inr rfl, .done ⟨_, [], [], _, .one (c := .d (.v (.int .i64 (szDecl a left)))) (hc10) .nil, .cons (Reads.d _).gives .nil, nodupB_ok rfl, by simp, (by simp)⟩⟩
  · have c0 := of_decide_eq_false c0
    refine .skip ?_
    refine .seq ?_
    refine .reg (X := Unit) (fun ζ => .of [(1, .one (.d (.v (.int .i64 (szL strW a.flags (szL strW a.vars left)))))), (2, .one (.ptr [2] (g5) 0))] [([2], (g5, g5, .box [.d (.sl false 9 1 (List.map strc (a.vars))), .d (.sl false 9 1 (List.map strc (a.flags))), .d (.sl false 92 2 (List.map Arr.c (a.arrays)))]))]) [⟨[2], some 11, [], []⟩, ⟨[11], some 12, [[2]], []⟩, ⟨[1], some 13, [], []⟩, ⟨[12, 13], some 14, [], []⟩, ⟨[14], some 1, [], []⟩] (fun k11 => ?_) ?_
    · skip
      refine .fieldAddrP (.no rfl) rfl t25 rfl rfl t22 rfl rfl rfl rfl ?_
      refine .load (.no rfl) rfl t22 rfl rfl (.ptr _ _ _ _ _ rfl) rfl rfl rfl rfl ?_
      refine .move (.no rfl) rfl rfl rfl rfl ?_
      refine .call (.no rfl) rfl [] [] (c_szStringS a.flags (szL strW a.vars left) (by first | assumption | exact ⟨by omega, szL_le (by omega) ‹_› (by first | omega | exact szL_le (by omega) ‹_› (by omega))⟩) (by first | assumption | exact ⟨by omega, szL_le (by omega) ‹_› (by first | omega | exact szL_le (by omega) ‹_› (by omega))⟩)) rfl rfl rfl rfl rfl (.cons (Reads.d _).gives (.cons (Reads.d _).gives .nil)) rfl rfl (fun h => absurd rfl h) (.own [14, 0] .nil) (.nil) rfl rfl rfl (by simp) rfl rfl rfl ?_
      refine .assign (.no rfl) rfl rfl rfl rfl ?_
      exact .fin () (.of (.cons rfl (.cons rfl .nil)) (.cons rfl .nil))
    intro _
    refine .seq ?_
    refine .seq ?_
    refine .reg (X := Unit) (fun ζ => .of [(1, .one (.d (.v (.int .i64 (szL strW a.flags (szL strW a.vars left)))))), (2, .one (.ptr [2] (g5) 0)), (16, .one (.d (.v (.bool (decide ((szL strW a.flags (szL strW a.vars left)) < 0))))))] [([2], (g5, g5, .box [.d (.sl false 9 1 (List.map strc (a.vars))), .d (.sl false 9 1 (List.map strc (a.flags))), .d (.sl false 92 2 (List.map Arr.c (a.arrays)))]))]) [⟨[1], some 15, [], []⟩, ⟨[15], some 16, [], []⟩] (fun k12 => ?_) ?_
    · skip
      refine .move (.no rfl) rfl rfl rfl rfl ?_
      refine .bin (.no rfl) rfl rfl rfl rfl rfl rfl ?_
      exact .fin () (.of (.cons rfl (.cons rfl (.cons rfl .nil))) (.cons rfl .nil))
    intro _
    refine .cond (t := decide ((szL strW a.flags (szL strW a.vars left)) < 0)) rfl (fun c1 => ?_) (fun c1 => ?_)
    · have c1 := of_decide_eq_true c1
      refine .seq ?_
      refine .reg (X := Unit) (fun ζ => .of [(4, .one (.d (.v (.int .i64 (-1)))))] []) [⟨[], some 4, [], []⟩] (fun k13 => ?_) ?_
      · skip
        refine .assign (.no rfl) rfl rfl rfl rfl ?_
        exact .fin () (.of (.cons rfl .nil) .nil)
      intro _
      refine .ret ?_
      have e14 : (-1) = (szDecl a left) := by (simp only [szDecl]; rw [if_neg c0, if_pos c1])
      have hc15 := eq1 (fun z1 => SV.one (.d (.v (.int .i64 (z1))))) e14
      show _ ∧ _
      exact ⟨.inr rfl, .done ⟨_, [], [], _, .one (c := .d (.v (.int .i64 (szDecl a left)))) (hc15) .nil, .cons (Reads.d _).gives .nil, nodupB_ok rfl, by simp, (by simp)⟩⟩
    · have c1 := of_decide_eq_false c1
      refine .skip ?_
      refine .seq ?_
      refine .reg (X := Unit) (fun ζ => .of [(1, .one (.d (.v (.int .i64 (szL arrW a.arrays (szL strW a.flags (szL strW a.vars left)))))))] []) [⟨[2], some 17, [], []⟩, ⟨[17], some 18, [[2]], []⟩, ⟨[1], some 19, [], []⟩, ⟨[18, 19], some 20, [], []⟩, ⟨[20], some 1, [], []⟩] (fun k16 => ?_) ?_
      · skip
        refine .fieldAddrP (.no rfl) rfl t25 rfl rfl t23 rfl rfl rfl rfl ?_
        refine .load (.no rfl) rfl t23 rfl rfl (.ptr _ _ _ _ _ rfl) rfl rfl rfl rfl ?_
        refine .move (.no rfl) rfl rfl rfl rfl ?_
        refine .call (.no rfl) rfl [] [] (c_szArrS a.arrays (szL strW a.flags (szL strW a.vars left)) (by first | assumption | exact ⟨by omega, szL_le (by omega) ‹_› (by first | omega | exact szL_le (by omega) ‹_› (by omega))⟩) (by first | assumption | exact ⟨by omega, szL_le (by omega) ‹_› (by first | omega | exact szL_le (by omega) ‹_› (by omega))⟩)) rfl rfl rfl rfl rfl (.cons (Reads.d _).gives (.cons (Reads.d _).gives .nil)) rfl rfl (fun h => absurd rfl h) (.own [20, 0] .nil) (.nil) rfl rfl rfl (by simp) rfl rfl rfl ?_
        refine .assign (.no rfl) rfl rfl rfl rfl ?_
        exact .fin () (.of (.cons rfl .nil) .nil)
      intro _
      refine .seq ?_
      refine .seq ?_
      refine .reg (X := Unit) (fun ζ => .of [(1, .one (.d (.v (.int .i64 (szL arrW a.arrays (szL strW a.flags (szL strW a.vars left))))))), (22, .one (.d (.v (.bool (decide ((szL arrW a.arrays (szL strW a.flags (szL strW a.vars left))) < 0))))))] []) [⟨[1], some 21, [], []⟩, ⟨[21], some 22, [], []⟩] (fun k17 => ?_) ?_
      · skip
        refine .move (.no rfl) rfl rfl rfl rfl ?_
        refine .bin (.no rfl) rfl rfl rfl rfl rfl rfl ?_
        exact .fin () (.of (.cons rfl (.cons rfl .nil)) .nil)
      intro _
      refine .cond (t := decide ((szL arrW a.arrays (szL strW a.flags (szL strW a.vars left))) < 0)) rfl (fun c2 => ?_) (fun c2 => ?_)
      · have c2 := of_decide_eq_true c2
        refine .seq ?_
        refine .reg (X := Unit) (fun ζ => .of [(4, .one (.d (.v (.int .i64 (-1)))))] []) [⟨[], some 4, [], []⟩] (fun k18 => ?_) ?_
        · skip
          refine .assign (.no rfl) rfl rfl rfl rfl ?_
          exact .fin () (.of (.cons rfl .nil) .nil)
        intro _
        refine .ret ?_
        have e19 : (-1) = (szDecl a left) := by (simp only [szDecl]; rw [if_neg c0, if_neg c1, if_pos c2])
        have hc20 := eq1 (fun z1 => SV.one (.d (.v (.int .i64 (z1))))) e19
        show _ ∧ _
        exact ⟨.inr rfl, .done ⟨_, [], [], _, .one (c := .d (.v (.int .i64 (szDecl a left)))) (hc20) .nil, .cons (Reads.d _).gives .nil, nodupB_ok rfl, by simp, (by simp)⟩⟩
      · have c2 := of_decide_eq_false c2
        refine .skip ?_
        refine .seq ?_
        refine .reg (X := Unit) (fun ζ => .of [(4, .one (.d (.v (.int .i64 (szL arrW a.arrays (szL strW a.flags (szL strW a.vars left)))))))] []) [⟨[1], some 23, [], []⟩, ⟨[23], some 4, [], []⟩] (fun k21 => ?_) ?_
        · skip
          refine .move (.no rfl) rfl rfl rfl rfl ?_
          refine .assign (.no rfl) rfl rfl rfl rfl ?_
          exact .fin () (.of (.cons rfl .nil) .nil)
        intro _
        refine .ret ?_
        have e22 : (szL arrW a.arrays (szL strW a.flags (szL strW a.vars left))) = (szDecl a left) := by (simp only [szDecl]; rw [if_neg c0, if_neg c1, if_neg c2])
        have hc23 := eq1 (fun z1 => SV.one (.d (.v (.int .i64 (z1))))) e22
        show _ ∧ _
        exact ⟨.inr rfl, .done ⟨_, [], [], _, .one (c := .d (.v (.int .i64 (szDecl a left)))) (hc23) .nil, .cons (Reads.d _).gives .nil, nodupB_ok rfl, by simp, (by simp)⟩⟩
theorem c_szIntervalS (a : List Iv) (left : Int) (hl : 0 ≤ left ∧ left ≤ 1048576) : Trip Tryd.prog 26 [(false, 1), (false, 1)] ([.sl false 102 2 (List.map Iv.c (a))] ++ [.v (.int .i64 (left))]) [(false, 1)] [.v (.int .i64 (szIvs a left))] [] := by
  refine Trip.of Tryd.func26 (by decide) (c := _) rfl rfl (shB_ok rfl) (Nat.le_of_ble_eq_true rfl) rfl (AftOk.nil _) ?_
  refine .sat (t := 0) rfl (fun hs1 => ?_)
  have hs1l : a.length ≤ 9223372036854775807 := hs1.maplen
  refine .seq ?_
  refine .reg (X := Unit) (fun ζ => .of [(0, .one (.d (.sl false 102 2 (List.map Iv.c (a))))), (1, .one (.d (.v (.int .i64 (left)))))] []) [⟨[], some 4, [], []⟩] (fun k2 => ?_) ?_
  · skip
    refine .assign (.no rfl) rfl rfl rfl rfl ?_
    exact .fin () (.of (.cons rfl (.cons rfl .nil)) .nil)
  intro _
  refine .seq ?_
  refine .reg (X := Unit) (fun ζ => .of [(1, .one (.d (.v (.int .i64 (IntKind.wrap .i64 (left - (a.length : Int)))))))] []) [⟨[1], some 5, [], []⟩, ⟨[0], some 6, [], []⟩, ⟨[6], some 7, [], []⟩, ⟨[5, 7], some 8, [], []⟩, ⟨[8], some 1, [], []⟩] (fun k3 => ?_) ?_
  · skip
    refine .move (.no rfl) rfl rfl rfl rfl ?_
    refine .move (.no rfl) rfl rfl rfl rfl ?_
    refine .len (.no rfl) rfl (z := (a.length : Int)) t26 rfl rfl rfl (.d _ _) (map_len _ _) rfl ?_
    refine .bin (.no rfl) rfl rfl rfl rfl rfl rfl ?_
    refine .assign (.no rfl) rfl rfl rfl rfl ?_
    exact .fin () (.of (.cons rfl .nil) .nil)
  intro _
  refine .seq ?_
  refine .seq ?_
  refine .reg (X := Unit) (fun ζ => .of [(1, .one (.d (.v (.int .i64 (IntKind.wrap .i64 (left - (a.length : Int))))))), (10, .one (.d (.v (.bool (decide ((IntKind.wrap .i64 (left - (a.length : Int))) < 0))))))] []) [⟨[1], some 9, [], []⟩, ⟨[9], some 10, [], []⟩] (fun k4 => ?_) ?_
  · skip
    refine .move (.no rfl) rfl rfl rfl rfl ?_
    refine .bin (.no rfl) rfl rfl rfl rfl rfl rfl ?_
    exact .fin () (.of (.cons rfl (.cons rfl .nil)) .nil)
  intro _
  refine .cond (t := decide ((IntKind.wrap .i64 (left - (a.length : Int))) < 0)) rfl (fun c0 => ?_) (fun c0 => ?_)
  · have c0 := of_decide_eq_true c0
    refine .seq ?_
    refine .reg (X := Unit) (fun ζ => .of [(4, .one (.d (.v (.int .i64 (-1)))))] []) [⟨[], some 4, [], []⟩] (fun k5 => ?_) ?_
    · skip
      refine .assign (.no rfl) rfl rfl rfl rfl ?_
      exact .fin () (.of (.cons rfl .nil) .nil)
    intro _
    refine .ret ?_
    have e6 : (-1) = (szIvs a left) := by (rw [wrap_le (by omega) (by omega)] at c0; simp only [szIvs]; rw [if_pos c0])
    have hc7 := eq1 (fun z1 => SV.one (.d (.v (.int .i64 (z1))))) e6
    show _ ∧ _
    exact ⟨.inr rfl, .done ⟨_, [], [], _, .one (c := .d (.v (.int .i64 (szIvs a left)))) (hc7) .nil, .cons (Reads.d _).gives .nil, nodupB_ok rfl, by simp, (by simp)⟩⟩
  · have c0 := of_decide_eq_false c0
    refine .skip ?_
    refine .seq ?_
    refine .reg (X := Unit) (fun ζ => .of [(4, .one (.d (.v (.int .i64 (IntKind.wrap .i64 (left - (a.length : Int)))))))] []) [⟨[1], some 11, [], []⟩, ⟨[11], some 4, [], []⟩] (fun k8 => ?_) ?_
    · skip
      refine .move (.no rfl) rfl rfl rfl rfl ?_
      refine .assign (.no rfl) rfl rfl rfl rfl ?_
      exact .fin () (.of (.cons rfl .nil) .nil)
    intro _
    refine .ret ?_
    have e9 : (IntKind.wrap .i64 (left - (a.length : Int))) = (szIvs a left) := by (rw [wrap_le (by omega) (by omega)] at c0 ⊢; simp only [szIvs]; rw [if_neg c0])
    have hc10 := eq1 (fun z1 => SV.one (.d (.v (.int .i64 (z1))))) e9
    show _ ∧ _
    exact ⟨.inr rfl, .done ⟨_, [], [], _, .one (c := .d (.v (.int .i64 (szIvs a left)))) (hc10) .nil, .cons (Reads.d _).gives .nil, nodupB_ok rfl, by simp, (by simp)⟩⟩
theorem c_szEnv (a : Env) (left : Int) (hl : 0 ≤ left ∧ left ≤ 1048576) : Trip Tryd.prog 6 [(true, 3), (false, 1)] (Env.c28 a ++ [.v (.int .i64 (left))]) [(false, 1)] [.v (.int .i64 (szEnv a left))] [] := by
  refine Trip.of Tryd.func6 (by decide) (c := _) rfl rfl (shB_ok rfl) (Nat.le_of_ble_eq_true rfl) rfl (AftOk.nil _) ?_
  refine .satA (t := 0) (i := 1) rfl rfl (fun hs1 => ?_)
  have hs1l : a.ints.length ≤ 9223372036854775807 := hs1.maplen
  refine .satA (t := 0) (i := 2) rfl rfl (fun hs2 => ?_)
  have hs2l : a.arrs.length ≤ 9223372036854775807 := hs2.maplen
  refine .seq ?_
  refine .reg (X := Nat) (fun ζ => .of [(1, .one (.d (.v (.int .i64 (left))))), (2, .one (.ptr [2] (ζ) 0))] [([2], (ζ, ζ, .box [.d (.v (.bool (a.live))), .d (.sl false 102 2 (List.map Iv.c (a.ints))), .d (.sl false 102 2 (List.map Iv.c (a.arrs)))]))]) [⟨[0], some 2, [], [[2]]⟩, ⟨[], some 4, [], []⟩] (fun k3 => ?_) ?_
  · skip
    refine .box (.no rfl) rfl rfl rfl rfl rfl ?_
    refine .assign (.no rfl) rfl rfl rfl rfl ?_
    exact .fin k3 (.of (.cons rfl (.cons rfl .nil)) (.cons rfl .nil))
  intro g4
  refine .seq ?_
  refine .reg (X := Unit) (fun ζ => .of [(1, .one (.d (.v (.int .i64 (szIvs a.ints left))))), (2, .one (.ptr [2] (g4) 0))] [([2], (g4, g4, .box [.d (.v (.bool (a.live))), .d (.sl false 102 2 (List.map Iv.c (a.ints))), .d (.sl false 102 2 (List.map Iv.c (a.arrs)))]))]) [⟨[2], some 5, [], []⟩, ⟨[5], some 6, [[2]], []⟩, ⟨[1], some 7, [], []⟩, ⟨[6, 7], some 8, [], []⟩, ⟨[8], some 1, [], []⟩] (fun k5 => ?_) ?_
  · skip
    refine .fieldAddrP (.no rfl) rfl t28 rfl rfl t26 rfl rfl rfl rfl ?_
    refine .load (.no rfl) rfl t26 rfl rfl (.ptr _ _ _ _ _ rfl) rfl rfl rfl rfl ?_
    refine .move (.no rfl) rfl rfl rfl rfl ?_
    refine .call (.no rfl) rfl [] [] (c_szIntervalS a.ints left (by first | assumption | exact ⟨by omega, szIvs_le (by omega)⟩)) rfl rfl rfl rfl rfl (.cons (Reads.d _).gives (.cons (Reads.d _).gives .nil)) rfl rfl (fun h => absurd rfl h) (.own [8, 0] .nil) (.nil) rfl rfl rfl (by simp) rfl rfl rfl ?_
    refine .assign (.no rfl) rfl rfl rfl rfl ?_
    exact .fin () (.of (.cons rfl (.cons rfl .nil)) (.cons rfl .nil))
  intro _
  refine .seq ?_
  refine .seq ?_
  refine .reg (X := Unit) (fun ζ => .of [(1, .one (.d (.v (.int .i64 (szIvs a.ints left))))), (2, .one (.ptr [2] (g4) 0)), (10, .one (.d (.v (.bool (decide ((szIvs a.ints left) < 0))))))] [([2], (g4, g4, .box [.d (.v (.bool (a.live))), .d (.sl false 102 2 (List.map Iv.c (a.ints))), .d (.sl false 102 2 (List.map Iv.c (a.arrs)))]))]) [⟨[1], some 9, [], []⟩, ⟨[9], some 10, [], []⟩] (fun k6 => ?_) ?_
  · skip
    refine .move (.no rfl) rfl rfl rfl rfl ?_
    refine .bin (.no rfl) rfl rfl rfl rfl rfl rfl ?_
    exact .fin () (.of (.cons rfl (.cons rfl (.cons rfl .nil))) (.cons rfl .nil))
  intro _
  refine .cond (t := decide ((szIvs a.ints left) < 0)) rfl (fun c0 => ?_) (fun c0 => ?_)
  · have c0 := of_decide_eq_true c0
    refine .seq ?_
    refine .reg (X := Unit) (fun ζ => .of [(4, .one (.d (.v (.int .i64 (-1)))))] []) [⟨[], some 4, [], []⟩] (fun k7 => ?_) ?_
    · skip
      refine .assign (.no rfl) rfl rfl rfl rfl ?_
      exact .fin () (.of (.cons rfl .nil) .nil)
    intro _
    refine .ret ?_
    have e8 : (-1) = (szEnv a left) := by (simp only [szEnv]; rw [if_pos c0])
    have hc9 := eq1 (fun z1 => SV.one (.d (.v (.int .i64 (z1))))) e8
    show _ ∧ _
    exact ⟨.inr rfl, .done ⟨_, [], [], _, .one (c := .d (.v (.int .i64 (szEnv a left)))) (hc9) .nil, .cons (Reads.d _).gives .nil, nodupB_ok rfl, by simp, (by simp)⟩⟩
  · have c0 := of_decide_eq_false c0
    refine .skip ?_
    refine .seq ?_
    refine .reg (X := Unit) (fun ζ => .of [(1, .one (.d (.v (.int .i64 (szIvs a.arrs (szIvs a.ints left))))))] []) [⟨[2], some 11, [], []⟩, ⟨[11], some 12, [[2]], []⟩, ⟨[1], some 13, [], []⟩, ⟨[12, 13], some 14, [], []⟩, ⟨[14], some 1, [], []⟩] (fun k10 => ?_) ?_
    · skip
      refine .fieldAddrP (.no rfl) rfl t28 rfl rfl t26 rfl rfl rfl rfl ?_
      refine .load (.no rfl) rfl t26 rfl rfl (.ptr _ _ _ _ _ rfl) rfl rfl rfl rfl ?_
      refine .move (.no rfl) rfl rfl rfl rfl ?_
      refine .call (.no rfl) rfl [] [] (c_szIntervalS a.arrs (szIvs a.ints left) (by first | assumption | exact ⟨by omega, szIvs_le (by omega)⟩)) rfl rfl rfl rfl rfl (.cons (Reads.d _).gives (.cons (Reads.d _).gives .nil)) rfl rfl (fun h => absurd rfl h) (.own [14, 0] .nil) (.nil) rfl rfl rfl (by simp) rfl rfl rfl ?_
      refine .assign (.no rfl) rfl rfl rfl rfl ?_
      exact .fin () (.of (.cons rfl .nil) .nil)
    intro _
    refine .seq ?_
    refine .seq ?_
    refine .reg (X := Unit) (fun ζ => .of [(1, .one (.d (.v (.int .i64 (szIvs a.arrs (szIvs a.ints left)))))), (16, .one (.d (.v (.bool (decide ((szIvs a.arrs (szIvs a.ints left)) < 0))))))] []) [⟨[1], some 15, [], []⟩, ⟨[15], some 16, [], []⟩] (fun k11 => ?_) ?_
    · skip
      refine .move (.no rfl) rfl rfl rfl rfl ?_
      refine .bin (.no rfl) rfl rfl rfl rfl rfl rfl ?_
      exact .fin () (.of (.cons rfl (.cons rfl .nil)) .nil)
    intro _
    refine .cond (t := decide ((szIvs a.arrs (szIvs a.ints left)) < 0)) rfl (fun c1 => ?_) (fun c1 => ?_)
    · have c1 := of_decide_eq_true c1
      refine .seq ?_
      refine .reg (X := Unit) (fun ζ => .of [(4, .one (.d (.v (.int .i64 (-1)))))] []) [⟨[], some 4, [], []⟩] (fun k12 => ?_) ?_
      · skip
        refine .assign (.no rfl) rfl rfl rfl rfl ?_
        exact .fin () (.of (.cons rfl .nil) .nil)
      intro _
      refine .ret ?_
      have e13 : (-1) = (szEnv a left) := by (simp only [szEnv]; rw [if_neg c0, if_pos c1])
      have hc14 := eq1 (fun z1 => SV.one (.d (.v (.int .i64 (z1))))) e13
      show _ ∧ _
      exact ⟨.inr rfl, .done ⟨_, [], [], _, .one (c := .d (.v (.int .i64 (szEnv a left)))) (hc14) .nil, .cons (Reads.d _).gives .nil, nodupB_ok rfl, by simp, (by simp)⟩⟩
    · have c1 := of_decide_eq_false c1
      refine .skip ?_
      refine .seq ?_
      refine .reg (X := Unit) (fun ζ => .of [(4, .one (.d (.v (.int .i64 (szIvs a.arrs (szIvs a.ints left))))))] []) [⟨[1], some 17, [], []⟩, ⟨[17], some 4, [], []⟩] (fun k15 => ?_) ?_
      · skip
        refine .move (.no rfl) rfl rfl rfl rfl ?_
        refine .assign (.no rfl) rfl rfl rfl rfl ?_
        exact .fin () (.of (.cons rfl .nil) .nil)
      intro _
      refine .ret ?_
      have e16 : (szIvs a.arrs (szIvs a.ints left)) = (szEnv a left) := by (simp only [szEnv]; rw [if_neg c0, if_neg c1])
      have hc17 := eq1 (fun z1 => SV.one (.d (.v (.int .i64 (z1))))) e16
      show _ ∧ _
      exact ⟨.inr rfl, .done ⟨_, [], [], _, .one (c := .d (.v (.int .i64 (szEnv a left)))) (hc17) .nil, .cons (Reads.d _).gives .nil, nodupB_ok rfl, by simp, (by simp)⟩⟩
theorem c_toInterval (a : Iv) : Trip Tryd.prog 63 [(true, 2)] (Iv.c a) [(true, 2)] [.v (.int .i64 (a.lo)), .v (.int .i64 (a.hi))] [] := by
  refine Trip.of Tryd.func63 (by decide) (c := _) rfl rfl (shB_ok rfl) (Nat.le_of_ble_eq_true rfl) rfl (AftOk.nil _) ?_
  refine .seq ?_
  refine .reg (X := Nat × Nat) (fun ζ => .of [(1, .one (.ptr [1] (ζ.1) 0)), (2, .one (.ptr [2] (ζ.2) 0))] [([1], (ζ.1, ζ.1, .box [.d (.v (.int .i64 (a.lo))), .d (.v (.int .i64 (a.hi)))])), ([2], (ζ.2, ζ.2, .box [.d (.v (.int .i64 (0))), .d (.v (.int .i64 (0)))]))]) [⟨[0], some 1, [], [[1]]⟩, ⟨[], some 2, [], [[2]]⟩] (fun k1 => ?_) ?_
  · skip
    refine .box (.no rfl) rfl rfl rfl rfl rfl ?_
    refine .alloc (.no rfl) rfl z97 rfl rfl rfl ?_
    exact .fin (k1, k1 + 1) (.of (.cons rfl (.cons rfl .nil)) (.cons rfl (.cons rfl .nil)))
  rintro ⟨g2, g3⟩
  refine .seq ?_
  refine .reg (X := Nat) (fun ζ => .of [(1, .one (.ptr [1] (g2) 0)), (2, .one (.ptr [2] (g3) 0)), (3, .one (.ptr [3] (ζ) 0))] [([1], (g2, g2, .box [.d (.v (.int .i64 (a.lo))), .d (.v (.int .i64 (a.hi)))])), ([2], (g3, g3, .box [.d (.v (.int .i64 (0))), .d (.v (.int .i64 (0)))])), ([3], (ζ, ζ, .box [.d (.v (.int .i64 (0))), .d (.v (.int .i64 (0)))]))]) [⟨[], some 3, [], [[3]]⟩] (fun k4 => ?_) ?_
  · skip
    refine .alloc (.no rfl) rfl z97 rfl rfl rfl ?_
    exact .fin k4 (.of (.cons rfl (.cons rfl (.cons rfl .nil))) (.cons rfl (.cons rfl (.cons rfl .nil))))
  intro g5
  refine .seq ?_
  refine .reg (X := Nat) (fun ζ => .of [(1, .one (.ptr [1] (g2) 0)), (2, .one (.ptr [2] (g3) 0)), (3, .one (.ptr [3] (g5) 0))] [([1], (g2, g2, .box [.d (.v (.int .i64 (a.lo))), .d (.v (.int .i64 (a.hi)))])), ([2], (g3, g3, .box [.d (.v (.int .i64 (0))), .d (.v (.int .i64 (0)))])), ([3], (g5, ζ, .box [.d (.v (.int .i64 (a.lo))), .d (.v (.int .i64 (0)))]))]) [⟨[1], some 4, [], []⟩, ⟨[4], some 5, [[1]], []⟩, ⟨[3], some 6, [], []⟩, ⟨[6, 5], none, [[3]], [[3]]⟩] (fun k6 => ?_) ?_
  · skip
    refine .fieldAddrP (.no rfl) rfl t102 rfl rfl t2 rfl rfl rfl rfl ?_
    refine .load (.no rfl) rfl t2 rfl rfl (.ptr _ _ _ _ _ rfl) rfl rfl rfl rfl ?_
    refine .fieldAddrP (.no rfl) rfl t97 rfl rfl t2 rfl rfl rfl rfl ?_
    refine .store (.no rfl) rfl t2 rfl rfl rfl rfl rfl rfl rfl rfl rfl ?_
    exact .fin (k6 + 1 + 1 + 1) (.of (.cons rfl (.cons rfl (.cons rfl .nil))) (.cons rfl (.cons rfl (.cons rfl .nil))))
  intro g7
  refine .seq ?_
  refine .reg (X := Nat) (fun ζ => .of [(2, .one (.ptr [2] (g3) 0)), (3, .one (.ptr [3] (g5) 0))] [([2], (g3, g3, .box [.d (.v (.int .i64 (0))), .d (.v (.int .i64 (0)))])), ([3], (g5, ζ, .box [.d (.v (.int .i64 (a.lo))), .d (.v (.int .i64 (a.hi)))]))]) [⟨[1], some 7, [], []⟩, ⟨[7], some 8, [[1]], []⟩, ⟨[3], some 9, [], []⟩, ⟨[9, 8], none, [[3]], [[3]]⟩] (fun k8 => ?_) ?_
  · skip
    refine .fieldAddrP (.no rfl) rfl t102 rfl rfl t2 rfl rfl rfl rfl ?_
    refine .load (.no rfl) rfl t2 rfl rfl (.ptr _ _ _ _ _ rfl) rfl rfl rfl rfl ?_
    refine .fieldAddrP (.no rfl) rfl t97 rfl rfl t2 rfl rfl rfl rfl ?_
    refine .store (.no rfl) rfl t2 rfl rfl rfl rfl rfl rfl rfl rfl rfl ?_
    exact .fin (k8 + 1 + 1 + 1) (.of (.cons rfl (.cons rfl .nil)) (.cons rfl (.cons rfl .nil)))
  intro g9
  refine .seq ?_
  refine .reg (X := Nat) (fun ζ => .of [(2, .one (.ptr [2] (g3) 0))] [([2], (g3, ζ, .box [.d (.v (.int .i64 (a.lo))), .d (.v (.int .i64 (a.hi)))]))]) [⟨[3], some 10, [[3]], []⟩, ⟨[2, 10], none, [[2]], [[2]]⟩] (fun k10 => ?_) ?_
  · skip
    refine .load (.no rfl) rfl t97 rfl rfl (.ptr _ _ _ _ _ rfl) rfl rfl rfl rfl ?_
    refine .store (.no rfl) rfl t97 rfl rfl rfl rfl rfl rfl rfl rfl rfl ?_
    exact .fin (k10 + 1) (.of (.cons rfl .nil) (.cons rfl .nil))
  intro g11
  refine .ret ?_
  show _ ∧ _
  exact ⟨.inr rfl, .done ⟨_, [], [], _, .cell (cells := [.d (.v (.int .i64 (a.lo))), .d (.v (.int .i64 (a.hi)))]) rfl rfl t97 rfl rfl .nil, .cons (Reads.d _).gives (.cons (Reads.d _).gives .nil), nodupB_ok rfl, by simp, (by simp)⟩⟩
theorem c_toArr (a : Arr) : Trip Tryd.prog 62 [(true, 2)] (Arr.c a) [(true, 2)] [.v (.string (a.name)), .v (.int .i64 (a.size))] [] := by
  refine Trip.of Tryd.func62 (by decide) (c := _) rfl rfl (shB_ok rfl) (Nat.le_of_ble_eq_true rfl) rfl (AftOk.nil _) ?_
  refine .seq ?_
  refine .reg (X := Nat × Nat) (fun ζ => .of [(1, .one (.ptr [1] (ζ.1) 0)), (2, .one (.ptr [2] (ζ.2) 0))] [([1], (ζ.1, ζ.1, .box [.d (.v (.string (a.name))), .d (.v (.int .i64 (a.size)))])), ([2], (ζ.2, ζ.2, .box [.d (.v (.string (.empty))), .d (.v (.int .i64 (0)))]))]) [⟨[0], some 1, [], [[1]]⟩, ⟨[], some 2, [], [[2]]⟩] (fun k1 => ?_) ?_
  · skip
    refine .box (.no rfl) rfl rfl rfl rfl rfl ?_
    refine .alloc (.no rfl) rfl z98 rfl rfl rfl ?_
    exact .fin (k1, k1 + 1) (.of (.cons rfl (.cons rfl .nil)) (.cons rfl (.cons rfl .nil)))
  rintro ⟨g2, g3⟩
  refine .seq ?_
  refine .reg (X := Nat) (fun ζ => .of [(1, .one (.ptr [1] (g2) 0)), (2, .one (.ptr [2] (g3) 0)), (3, .one (.ptr [3] (ζ) 0))] [([1], (g2, g2, .box [.d (.v (.string (a.name))), .d (.v (.int .i64 (a.size)))])), ([2], (g3, g3, .box [.d (.v (.string (.empty))), .d (.v (.int .i64 (0)))])), ([3], (ζ, ζ, .box [.d (.v (.string (.empty))), .d (.v (.int .i64 (0)))]))]) [⟨[], some 3, [], [[3]]⟩] (fun k4 => ?_) ?_
  · skip
    refine .alloc (.no rfl) rfl z98 rfl rfl rfl ?_
    exact .fin k4 (.of (.cons rfl (.cons rfl (.cons rfl .nil))) (.cons rfl (.cons rfl (.cons rfl .nil))))
  intro g5
  refine .seq ?_
  refine .reg (X := Nat) (fun ζ => .of [(1, .one (.ptr [1] (g2) 0)), (2, .one (.ptr [2] (g3) 0)), (3, .one (.ptr [3] (g5) 0))] [([1], (g2, g2, .box [.d (.v (.string (a.name))), .d (.v (.int .i64 (a.size)))])), ([2], (g3, g3, .box [.d (.v (.string (.empty))), .d (.v (.int .i64 (0)))])), ([3], (g5, ζ, .box [.d (.v (.string (a.name))), .d (.v (.int .i64 (0)))]))]) [⟨[1], some 4, [], []⟩, ⟨[4], some 5, [[1]], []⟩, ⟨[3], some 6, [], []⟩, ⟨[6, 5], none, [[3]], [[3]]⟩] (fun k6 => ?_) ?_
  · skip
    refine .fieldAddrP (.no rfl) rfl t92 rfl rfl t9 rfl rfl rfl rfl ?_
    refine .load (.no rfl) rfl t9 rfl rfl (.ptr _ _ _ _ _ rfl) rfl rfl rfl rfl ?_
    refine .fieldAddrP (.no rfl) rfl t98 rfl rfl t9 rfl rfl rfl rfl ?_
    refine .store (.no rfl) rfl t9 rfl rfl rfl rfl rfl rfl rfl rfl rfl ?_
    exact .fin (k6 + 1 + 1 + 1) (.of (.cons rfl (.cons rfl (.cons rfl .nil))) (.cons rfl (.cons rfl (.cons rfl .nil))))
  intro g7
  refine .seq ?_
  refine .reg (X := Nat) (fun ζ => .of [(2, .one (.ptr [2] (g3) 0)), (3, .one (.ptr [3] (g5) 0))] [([2], (g3, g3, .box [.d (.v (.string (.empty))), .d (.v (.int .i64 (0)))])), ([3], (g5, ζ, .box [.d (.v (.string (a.name))), .d (.v (.int .i64 (a.size)))]))]) [⟨[1], some 7, [], []⟩, ⟨[7], some 8, [[1]], []⟩, ⟨[3], some 9, [], []⟩, ⟨[9, 8], none, [[3]], [[3]]⟩] (fun k8 => ?_) ?_
  · skip
    refine .fieldAddrP (.no rfl) rfl t92 rfl rfl t2 rfl rfl rfl rfl ?_
    refine .load (.no rfl) rfl t2 rfl rfl (.ptr _ _ _ _ _ rfl) rfl rfl rfl rfl ?_
    refine .fieldAddrP (.no rfl) rfl t98 rfl rfl t2 rfl rfl rfl rfl ?_
    refine .store (.no rfl) rfl t2 rfl rfl rfl rfl rfl rfl rfl rfl rfl ?_
    exact .fin (k8 + 1 + 1 + 1) (.of (.cons rfl (.cons rfl .nil)) (.cons rfl (.cons rfl .nil)))
  intro g9
  refine .seq ?_
  refine .reg (X := Nat) (fun ζ => .of [(2, .one (.ptr [2] (g3) 0))] [([2], (g3, ζ, .box [.d (.v (.string (a.name))), .d (.v (.int .i64 (a.size)))]))]) [⟨[3], some 10, [[3]], []⟩, ⟨[2, 10], none, [[2]], [[2]]⟩] (fun k10 => ?_) ?_
  · skip
    refine .load (.no rfl) rfl t98 rfl rfl (.ptr _ _ _ _ _ rfl) rfl rfl rfl rfl ?_
    refine .store (.no rfl) rfl t98 rfl rfl rfl rfl rfl rfl rfl rfl rfl ?_
    exact .fin (k10 + 1) (.of (.cons rfl .nil) (.cons rfl .nil))
  intro g11
  refine .ret ?_
  show _ ∧ _
  exact ⟨.inr rfl, .done ⟨_, [], [], _, .cell (cells := [.d (.v (.string (a.name))), .d (.v (.int .i64 (a.size)))]) rfl rfl t98 rfl rfl .nil, .cons (Reads.d _).gives (.cons (Reads.d _).gives .nil), nodupB_ok rfl, by simp, (by simp)⟩⟩
theorem c_toIntervalS (a : List Iv) (hb : a.length ≤ 1048576) : Trip Tryd.prog 35 [(false, 1)] ([.sl false 102 2 (List.map Iv.c (a))]) [(false, 1)] [.sl true 97 2 (List.map Iv.c (a))] [] := by
  refine Trip.of Tryd.func35 (by decide) (c := _) rfl rfl (shB_ok rfl) (Nat.le_of_ble_eq_true rfl) rfl (AftOk.nil _) ?_
  refine .sat (t := 0) rfl (fun hs1 => ?_)
  have hs1l : a.length ≤ 9223372036854775807 := hs1.maplen
  refine .seq ?_
  refine .reg (X := Unit) (fun ζ => .of [(0, .one (.d (.sl false 102 2 (List.map Iv.c (a)))))] []) [⟨[], some 2, [], []⟩] (fun k2 => ?_) ?_
  · skip
    refine .assign (.no rfl) rfl rfl rfl rfl ?_
    exact .fin () (.of (.cons rfl .nil) .nil)
  intro _
  refine .seq ?_
  refine .reg (X := Nat) (fun ζ => .of [(0, .one (.d (.sl false 102 2 (List.map Iv.c (a))))), (3, .one (.ref [7] (ζ)))] [([7], (ζ, ζ, .row 97 2 (List.map Iv.c (List.replicate a.length (Iv.mk 0 0)))))]) [⟨[0], some 5, [], []⟩, ⟨[5], some 6, [], []⟩, ⟨[6, 6], some 7, [], [[7]]⟩, ⟨[7], some 3, [], []⟩] (fun k3 => ?_) ?_
  · skip
    refine .move (.no rfl) rfl rfl rfl rfl ?_
    refine .len (.no rfl) rfl (z := (a.length : Int)) t26 rfl rfl rfl (.d _ _) (map_len _ _) rfl ?_
    refine .makeSlice (.no rfl) rfl (n0 := a.length) (els := List.map Iv.c (List.replicate a.length (Iv.mk 0 0))) t42 rfl z97 rfl rfl rfl rfl rfl (by (simp [i97]; omega)) (by omega) (rep_map _ _ _ rfl) rfl ?_
    refine .assign (.no rfl) rfl rfl rfl rfl ?_
    exact .fin (k3 + 1 + 1) (.of (.cons rfl (.cons rfl .nil)) (.cons rfl .nil))
  intro g4
  refine .seq ?_
  refine .seq ?_
  refine .reg (X := Unit) (fun ζ => .of [(0, .one (.d (.sl false 102 2 (List.map Iv.c (a))))), (3, .one (.ref [7] (g4))), (4, .one (.d (.v (.int .i64 (0)))))] [([7], (g4, g4, .row 97 2 (List.map Iv.c (List.replicate a.length (Iv.mk 0 0)))))]) [⟨[], some 4, [], []⟩] (fun k5 => ?_) ?_
  · skip
    refine .assign (.no rfl) rfl rfl rfl rfl ?_
    exact .fin () (.of (.cons rfl (.cons rfl (.cons rfl .nil))) (.cons rfl .nil))
  intro _
  refine .block ?_
  refine .loop (X := Nat × Nat × Nat) (fun ζ => .of [(0, .one (.d (.sl false 102 2 (List.map Iv.c (a))))), (3, .one (.ref [7] (ζ.2.1))), (4, .one (.d (.v (.int .i64 ((ζ.1 : Int))))))] [([7], (ζ.2.1, ζ.2.2, .row 97 2 (List.map Iv.c (fillTo a (Iv.mk 0 0) ζ.1))))]) (fun ζ => ζ.1 ≤ a.length) (fun ζ => a.length - ζ.1) ?_ ?_
  · skip
    exact .here (0, g4, g4) (.of (.cons rfl (.cons rfl (.cons (svI (show (0) = ((0 : Int)) by first | rfl | omega | exact wrap_le (by omega) (by omega) | (rw [wrap_le (by omega) (by omega)]; omega))) .nil))) (.cons (rowE (show List.map Iv.c (List.replicate a.length (Iv.mk 0 0)) = List.map Iv.c (fillTo a (Iv.mk 0 0) 0) by first | rfl | (rw [fillTo_zero]) | (rw [fillTo_step _ _ _ (by omega) rfl]))) .nil)) (show 0 ≤ a.length by omega)
  · rintro ⟨j, q6, q7⟩ hI
    have hI : j ≤ a.length := hI
    refine .seq ?_
    refine .seq ?_
    refine .reg (X := Unit) (fun ζ => .of [(0, .one (.d (.sl false 102 2 (List.map Iv.c (a))))), (3, .one (.ref [7] (q6))), (4, .one (.d (.v (.int .i64 ((j : Int)))))), (11, .one (.d (.v (.bool (decide ((j : Int) < (a.length : Int)))))))] [([7], (q6, q7, .row 97 2 (List.map Iv.c (fillTo a (Iv.mk 0 0) j))))]) [⟨[4], some 8, [], []⟩, ⟨[0], some 9, [], []⟩, ⟨[9], some 10, [], []⟩, ⟨[8, 10], some 11, [], []⟩] (fun k8 => ?_) ?_
    · skip
      refine .move (.no rfl) rfl rfl rfl rfl ?_
      refine .move (.no rfl) rfl rfl rfl rfl ?_
      refine .len (.no rfl) rfl (z := (a.length : Int)) t26 rfl rfl rfl (.d _ _) (map_len _ _) rfl ?_
      refine .bin (.no rfl) rfl rfl rfl rfl rfl rfl ?_
      exact .fin () (.of (.cons rfl (.cons rfl (.cons rfl (.cons rfl .nil)))) (.cons rfl .nil))
    intro _
    refine .cond (t := decide ((j : Int) < (a.length : Int))) rfl (fun c0 => ?_) (fun c0 => ?_)
    · have c0 := of_decide_eq_true c0
      refine .skip ?_
      refine .seq ?_
      refine .block ?_
      refine .reg (X := Nat) (fun ζ => .of [(0, .one (.d (.sl false 102 2 (List.map Iv.c (a))))), (3, .one (.ref [7] (q6))), (4, .one (.d (.v (.int .i64 ((j : Int))))))] [([7], (q6, ζ, .row 97 2 (List.map Iv.c ((fillTo a (Iv.mk 0 0) j).set j (a.getD j default)))))]) [⟨[3], some 14, [], []⟩, ⟨[4], some 15, [], []⟩, ⟨[0], some 16, [], []⟩, ⟨[4], some 17, [], []⟩, ⟨[16, 17], some 18, [], []⟩, ⟨[18], some 19, [], []⟩, ⟨[19], some 20, [], []⟩, ⟨[14, 15], some 21, [[7]], []⟩, ⟨[21, 20], none, [[7]], [[7]]⟩] (fun k9 => ?_) ?_
      · skip
        refine .move (.no rfl) rfl rfl rfl rfl ?_
        refine .move (.no rfl) rfl rfl rfl rfl ?_
        refine .move (.no rfl) rfl rfl rfl rfl ?_
        refine .move (.no rfl) rfl rfl rfl rfl ?_
        refine .indexAddr (.no rfl) rfl (j) t26 rfl t102 rfl rfl rfl (.d _ _) rfl rfl rfl (map_get (by first | omega | (rw [fillTo_len]; omega))) rfl rfl ?_
        refine .load (.no rfl) rfl t102 rfl rfl (.d _) rfl rfl rfl rfl ?_
        refine .call (.no rfl) rfl [] [] (c_toInterval (a.getD j default)) rfl rfl rfl rfl rfl (.cons (Reads.d _).gives (.cons (Reads.d _).gives .nil)) rfl rfl (fun h => absurd rfl h) (.own [20, 0] (.own [20, 1] .nil)) (.nil) rfl rfl rfl (by simp) rfl rfl rfl ?_
        refine .indexAddr (.no rfl) rfl (j) t42 rfl t97 rfl rfl rfl (.ref _ _ _ _ _ rfl) rfl rfl rfl (map_get (by first | omega | (rw [fillTo_len]; omega))) rfl rfl ?_
        refine .storeE (.no rfl) rfl (els' := List.map Iv.c ((fillTo a (Iv.mk 0 0) j).set j (a.getD j default))) t97 rfl rfl rfl rfl (map_get (by first | omega | (rw [fillTo_len]; omega))) rfl rfl (.cons _ _ _ _ _ _ (.d _) (.cons _ _ _ _ _ _ (.d _) .nil)) rfl (Nat.le_of_ble_eq_true rfl) (set_map _ _ _ (a.getD j default) _ rfl) rfl rfl ?_
        exact .fin (k9 + 1 + 1 + 1 + 1 + 1 + 1 + 1 + 1) (.of (.cons rfl (.cons rfl (.cons rfl .nil))) (.cons rfl .nil))
      intro g10
      refine .reg (X := Unit) (fun ζ => .of [(0, .one (.d (.sl false 102 2 (List.map Iv.c (a))))), (3, .one (.ref [7] (q6))), (4, .one (.d (.v (.int .i64 (IntKind.wrap .i64 ((j : Int) + 1))))))] [([7], (q6, g10, .row 97 2 (List.map Iv.c ((fillTo a (Iv.mk 0 0) j).set j (a.getD j default)))))]) [⟨[4], some 12, [], []⟩, ⟨[12], some 13, [], []⟩, ⟨[13], some 4, [], []⟩] (fun k11 => ?_) ?_
      · skip
        refine .move (.no rfl) rfl rfl rfl rfl ?_
        refine .bin (.no rfl) rfl rfl rfl rfl rfl rfl ?_
        refine .assign (.no rfl) rfl rfl rfl rfl ?_
        exact .fin () (.of (.cons rfl (.cons rfl (.cons rfl .nil))) (.cons rfl .nil))
      intro _
      exact .here ((j + 1), q6, g10) (.of (.cons rfl (.cons rfl (.cons (svI (show (IntKind.wrap .i64 ((j : Int) + 1)) = (((j + 1) : Int)) by first | rfl | omega | exact wrap_le (by omega) (by omega) | (rw [wrap_le (by omega) (by omega)]; omega))) .nil))) (.cons (rowE (show List.map Iv.c ((fillTo a (Iv.mk 0 0) j).set j (a.getD j default)) = List.map Iv.c (fillTo a (Iv.mk 0 0) (j + 1)) by first | rfl | (rw [fillTo_zero]) | (rw [fillTo_step _ _ _ (by omega) rfl]))) .nil)) ⟨(show (j + 1) ≤ a.length by omega), (show a.length - (j + 1) < a.length - j by omega)⟩
    · have c0 := of_decide_eq_false c0
      refine .exit ?_
      refine .seq ?_
      refine .reg (X := Unit) (fun ζ => .of [(2, .one (.ref [7] (q6)))] [([7], (q6, q7, .row 97 2 (List.map Iv.c (fillTo a (Iv.mk 0 0) j))))]) [⟨[3], some 22, [], []⟩, ⟨[22], some 2, [], []⟩] (fun k12 => ?_) ?_
      · skip
        refine .move (.no rfl) rfl rfl rfl rfl ?_
        refine .assign (.no rfl) rfl rfl rfl rfl ?_
        exact .fin () (.of (.cons rfl .nil) (.cons rfl .nil))
      intro _
      refine .ret ?_
      have e13 : (fillTo a (Iv.mk 0 0) j) = (a) := by (exact fillTo_all _ _ (by omega))
      show _ ∧ _
      exact ⟨.inr rfl, .done ⟨_, [], [([7], (q6, q7, .row 97 2 (List.map Iv.c (a))))], _, .one rfl .nil, .cons (.ref (.head _)) .nil, nodupB_ok rfl, by simp, (AllH.get (.cons (rowE (congrArg (List.map Iv.c) e13)) .nil))⟩⟩
theorem c_toStringS (a : List ByteArray) (hb : a.length ≤ 1048576) : Trip Tryd.prog 33 [(false, 1)] ([.sl false 9 1 (List.map strc (a))]) [(false, 1)] [.sl true 9 1 (List.map strc (a))] [] := by
  refine Trip.of Tryd.func33 (by decide) (c := _) rfl rfl (shB_ok rfl) (Nat.le_of_ble_eq_true rfl) rfl (AftOk.nil _) ?_
  refine .sat (t := 0) rfl (fun hs1 => ?_)
  have hs1l : a.length ≤ 9223372036854775807 := hs1.maplen
  refine .seq ?_
  refine .reg (X := Unit) (fun ζ => .of [(0, .one (.d (.sl false 9 1 (List.map strc (a)))))] []) [⟨[], some 2, [], []⟩] (fun k2 => ?_) ?_
  · skip
    refine .assign (.no rfl) rfl rfl rfl rfl ?_
    exact .fin () (.of (.cons rfl .nil) .nil)
  intro _
  refine .seq ?_
  refine .reg (X := Nat) (fun ζ => .of [(0, .one (.d (.sl false 9 1 (List.map strc (a))))), (3, .one (.ref [7] (ζ)))] [([7], (ζ, ζ, .row 9 1 (List.map strc (List.replicate a.length .empty))))]) [⟨[0], some 5, [], []⟩, ⟨[5], some 6, [], []⟩, ⟨[6, 6], some 7, [], [[7]]⟩, ⟨[7], some 3, [], []⟩] (fun k3 => ?_) ?_
  · skip
    refine .move (.no rfl) rfl rfl rfl rfl ?_
    refine .len (.no rfl) rfl (z := (a.length : Int)) t22 rfl rfl rfl (.d _ _) (map_len _ _) rfl ?_
    refine .makeSlice (.no rfl) rfl (n0 := a.length) (els := List.map strc (List.replicate a.length .empty)) t22 rfl z9 rfl rfl rfl rfl rfl (by (simp [i9]; omega)) (by omega) (rep_map _ _ _ rfl) rfl ?_
    refine .assign (.no rfl) rfl rfl rfl rfl ?_
    exact .fin (k3 + 1 + 1) (.of (.cons rfl (.cons rfl .nil)) (.cons rfl .nil))
  intro g4
  refine .seq ?_
  refine .seq ?_
  refine .reg (X := Unit) (fun ζ => .of [(0, .one (.d (.sl false 9 1 (List.map strc (a))))), (3, .one (.ref [7] (g4))), (4, .one (.d (.v (.int .i64 (0)))))] [([7], (g4, g4, .row 9 1 (List.map strc (List.replicate a.length .empty))))]) [⟨[], some 4, [], []⟩] (fun k5 => ?_) ?_
  · skip
    refine .assign (.no rfl) rfl rfl rfl rfl ?_
    exact .fin () (.of (.cons rfl (.cons rfl (.cons rfl .nil))) (.cons rfl .nil))
  intro _
  refine .block ?_
  refine .loop (X := Nat × Nat × Nat) (fun ζ => .of [(0, .one (.d (.sl false 9 1 (List.map strc (a))))), (3, .one (.ref [7] (ζ.2.1))), (4, .one (.d (.v (.int .i64 ((ζ.1 : Int))))))] [([7], (ζ.2.1, ζ.2.2, .row 9 1 (List.map strc (fillTo a (.empty) ζ.1))))]) (fun ζ => ζ.1 ≤ a.length) (fun ζ => a.length - ζ.1) ?_ ?_
  · skip
    exact .here (0, g4, g4) (.of (.cons rfl (.cons rfl (.cons (svI (show (0) = ((0 : Int)) by first | rfl | omega | exact wrap_le (by omega) (by omega) | (rw [wrap_le (by omega) (by omega)]; omega))) .nil))) (.cons (rowE (show List.map strc (List.replicate a.length .empty) = List.map strc (fillTo a (.empty) 0) by first | rfl | (rw [fillTo_zero]) | (rw [fillTo_step _ _ _ (by omega) rfl]))) .nil)) (show 0 ≤ a.length by omega)
  · rintro ⟨j, q6, q7⟩ hI
    have hI : j ≤ a.length := hI
    refine .seq ?_
    refine .seq ?_
    refine .reg (X := Unit) (fun ζ => .of [(0, .one (.d (.sl false 9 1 (List.map strc (a))))), (3, .one (.ref [7] (q6))), (4, .one (.d (.v (.int .i64 ((j : Int)))))), (11, .one (.d (.v (.bool (decide ((j : Int) < (a.length : Int)))))))] [([7], (q6, q7, .row 9 1 (List.map strc (fillTo a (.empty) j))))]) [⟨[4], some 8, [], []⟩, ⟨[0], some 9, [], []⟩, ⟨[9], some 10, [], []⟩, ⟨[8, 10], some 11, [], []⟩] (fun k8 => ?_) ?_
    · skip
      refine .move (.no rfl) rfl rfl rfl rfl ?_
      refine .move (.no rfl) rfl rfl rfl rfl ?_
      refine .len (.no rfl) rfl (z := (a.length : Int)) t22 rfl rfl rfl (.d _ _) (map_len _ _) rfl ?_
      refine .bin (.no rfl) rfl rfl rfl rfl rfl rfl ?_
      exact .fin () (.of (.cons rfl (.cons rfl (.cons rfl (.cons rfl .nil)))) (.cons rfl .nil))
    intro _
    refine .cond (t := decide ((j : Int) < (a.length : Int))) rfl (fun c0 => ?_) (fun c0 => ?_)
    · have c0 := of_decide_eq_true c0
      refine .skip ?_
      refine .seq ?_
      refine .block ?_
      refine .reg (X := Nat) (fun ζ => .of [(0, .one (.d (.sl false 9 1 (List.map strc (a))))), (3, .one (.ref [7] (q6))), (4, .one (.d (.v (.int .i64 ((j : Int))))))] [([7], (q6, ζ, .row 9 1 (List.map strc ((fillTo a (.empty) j).set j (a.getD j default)))))]) [⟨[3], some 14, [], []⟩, ⟨[4], some 15, [], []⟩, ⟨[0], some 16, [], []⟩, ⟨[4], some 17, [], []⟩, ⟨[16, 17], some 18, [], []⟩, ⟨[18], some 19, [], []⟩, ⟨[14, 15], some 20, [[7]], []⟩, ⟨[20, 19], none, [[7]], [[7]]⟩] (fun k9 => ?_) ?_
      · skip
        refine .move (.no rfl) rfl rfl rfl rfl ?_
        refine .move (.no rfl) rfl rfl rfl rfl ?_
        refine .move (.no rfl) rfl rfl rfl rfl ?_
        refine .move (.no rfl) rfl rfl rfl rfl ?_
        refine .indexAddr (.no rfl) rfl (j) t22 rfl t9 rfl rfl rfl (.d _ _) rfl rfl rfl (map_get (by first | omega | (rw [fillTo_len]; omega))) rfl rfl ?_
        refine .load (.no rfl) rfl t9 rfl rfl (.d _) rfl rfl rfl rfl ?_
        refine .indexAddr (.no rfl) rfl (j) t22 rfl t9 rfl rfl rfl (.ref _ _ _ _ _ rfl) rfl rfl rfl (map_get (by first | omega | (rw [fillTo_len]; omega))) rfl rfl ?_
        refine .storeE (.no rfl) rfl (els' := List.map strc ((fillTo a (.empty) j).set j (a.getD j default))) t9 rfl rfl rfl rfl (map_get (by first | omega | (rw [fillTo_len]; omega))) rfl rfl (.cons _ _ _ _ _ _ (.d _) .nil) rfl (Nat.le_of_ble_eq_true rfl) (set_map _ _ _ (a.getD j default) _ rfl) rfl rfl ?_
        exact .fin (k9 + 1 + 1 + 1 + 1 + 1 + 1 + 1) (.of (.cons rfl (.cons rfl (.cons rfl .nil))) (.cons rfl .nil))
      intro g10
      refine .reg (X := Unit) (fun ζ => .of [(0, .one (.d (.sl false 9 1 (List.map strc (a))))), (3, .one (.ref [7] (q6))), (4, .one (.d (.v (.int .i64 (IntKind.wrap .i64 ((j : Int) + 1))))))] [([7], (q6, g10, .row 9 1 (List.map strc ((fillTo a (.empty) j).set j (a.getD j default)))))]) [⟨[4], some 12, [], []⟩, ⟨[12], some 13, [], []⟩, ⟨[13], some 4, [], []⟩] (fun k11 => ?_) ?_
      · skip
        refine .move (.no rfl) rfl rfl rfl rfl ?_
        refine .bin (.no rfl) rfl rfl rfl rfl rfl rfl ?_
        refine .assign (.no rfl) rfl rfl rfl rfl ?_
        exact .fin () (.of (.cons rfl (.cons rfl (.cons rfl .nil))) (.cons rfl .nil))
      intro _
      exact .here ((j + 1), q6, g10) (.of (.cons rfl (.cons rfl (.cons (svI (show (IntKind.wrap .i64 ((j : Int) + 1)) = (((j + 1) : Int)) by first | rfl | omega | exact wrap_le (by omega) (by omega) | (rw [wrap_le (by omega) (by omega)]; omega))) .nil))) (.cons (rowE (show List.map strc ((fillTo a (.empty) j).set j (a.getD j default)) = List.map strc (fillTo a (.empty) (j + 1)) by first | rfl | (rw [fillTo_zero]) | (rw [fillTo_step _ _ _ (by omega) rfl]))) .nil)) ⟨(show (j + 1) ≤ a.length by omega), (show a.length - (j + 1) < a.length - j by omega)⟩
    · have c0 := of_decide_eq_false c0
      refine .exit ?_
      refine .seq ?_
      refine .reg (X := Unit) (fun ζ => .of [(2, .one (.ref [7] (q6)))] [([7], (q6, q7, .row 9 1 (List.map strc (fillTo a (.empty) j))))]) [⟨[3], some 21, [], []⟩, ⟨[21], some 2, [], []⟩] (fun k12 => ?_) ?_
      · skip
        refine .move (.no rfl) rfl rfl rfl rfl ?_
        refine .assign (.no rfl) rfl rfl rfl rfl ?_
        exact .fin () (.of (.cons rfl .nil) (.cons rfl .nil))
      intro _
      refine .ret ?_
      have e13 : (fillTo a (.empty) j) = (a) := by (exact fillTo_all _ _ (by omega))
      show _ ∧ _
      exact ⟨.inr rfl, .done ⟨_, [], [([7], (q6, q7, .row 9 1 (List.map strc (a))))], _, .one rfl .nil, .cons (.ref (.head _)) .nil, nodupB_ok rfl, by simp, (AllH.get (.cons (rowE (congrArg (List.map strc) e13)) .nil))⟩⟩
theorem c_toArrS (a : List Arr) (hb : a.length ≤ 1048576) : Trip Tryd.prog 34 [(false, 1)] ([.sl false 92 2 (List.map Arr.c (a))]) [(false, 1)] [.sl true 98 2 (List.map Arr.c (a))] [] := by
  refine Trip.of Tryd.func34 (by decide) (c := _) rfl rfl (shB_ok rfl) (Nat.le_of_ble_eq_true rfl) rfl (AftOk.nil _) ?_
  refine .sat (t := 0) rfl (fun hs1 => ?_)
  have hs1l : a.length ≤ 9223372036854775807 := hs1.maplen
  refine .seq ?_
  refine .reg (X := Unit) (fun ζ => .of [(0, .one (.d (.sl false 92 2 (List.map Arr.c (a)))))] []) [⟨[], some 2, [], []⟩] (fun k2 => ?_) ?_
  · skip
    refine .assign (.no rfl) rfl rfl rfl rfl ?_
    exact .fin () (.of (.cons rfl .nil) .nil)
  intro _
  refine .seq ?_
  refine .reg (X := Nat) (fun ζ => .of [(0, .one (.d (.sl false 92 2 (List.map Arr.c (a))))), (3, .one (.ref [7] (ζ)))] [([7], (ζ, ζ, .row 98 2 (List.map Arr.c (List.replicate a.length (Arr.mk .empty 0)))))]) [⟨[0], some 5, [], []⟩, ⟨[5], some 6, [], []⟩, ⟨[6, 6], some 7, [], [[7]]⟩, ⟨[7], some 3, [], []⟩] (fun k3 => ?_) ?_
  · skip
    refine .move (.no rfl) rfl rfl rfl rfl ?_
    refine .len (.no rfl) rfl (z := (a.length : Int)) t23 rfl rfl rfl (.d _ _) (map_len _ _) rfl ?_
    refine .makeSlice (.no rfl) rfl (n0 := a.length) (els := List.map Arr.c (List.replicate a.length (Arr.mk .empty 0))) t38 rfl z98 rfl rfl rfl rfl rfl (by (simp [i98]; omega)) (by omega) (rep_map _ _ _ rfl) rfl ?_
    refine .assign (.no rfl) rfl rfl rfl rfl ?_
    exact .fin (k3 + 1 + 1) (.of (.cons rfl (.cons rfl .nil)) (.cons rfl .nil))
  intro g4
  refine .seq ?_
  refine .seq ?_
  refine .reg (X := Unit) (fun ζ => .of [(0, .one (.d (.sl false 92 2 (List.map Arr.c (a))))), (3, .one (.ref [7] (g4))), (4, .one (.d (.v (.int .i64 (0)))))] [([7], (g4, g4, .row 98 2 (List.map Arr.c (List.replicate a.length (Arr.mk .empty 0)))))]) [⟨[], some 4, [], []⟩] (fun k5 => ?_) ?_
  · skip
    refine .assign (.no rfl) rfl rfl rfl rfl ?_
    exact .fin () (.of (.cons rfl (.cons rfl (.cons rfl .nil))) (.cons rfl .nil))
  intro _
  refine .block ?_
  refine .loop (X := Nat × Nat × Nat) (fun ζ => .of [(0, .one (.d (.sl false 92 2 (List.map Arr.c (a))))), (3, .one (.ref [7] (ζ.2.1))), (4, .one (.d (.v (.int .i64 ((ζ.1 : Int))))))] [([7], (ζ.2.1, ζ.2.2, .row 98 2 (List.map Arr.c (fillTo a (Arr.mk .empty 0) ζ.1))))]) (fun ζ => ζ.1 ≤ a.length) (fun ζ => a.length - ζ.1) ?_ ?_
  · skip
    exact .here (0, g4, g4) (.of (.cons rfl (.cons rfl (.cons (svI (show (0) = ((0 : Int)) by first | rfl | omega | exact wrap_le (by omega) (by omega) | (rw [wrap_le (by omega) (by omega)]; omega))) .nil))) (.cons (rowE (show List.map Arr.c (List.replicate a.length (Arr.mk .empty 0)) = List.map Arr.c (fillTo a (Arr.mk .empty 0) 0) by first | rfl | (rw [fillTo_zero]) | (rw [fillTo_step _ _ _ (by omega) rfl]))) .nil)) (show 0 ≤ a.length by omega)
  · rintro ⟨j, q6, q7⟩ hI
    have hI : j ≤ a.length := hI
    refine .seq ?_
    refine .seq ?_
    refine .reg (X := Unit) (fun ζ => .of [(0, .one (.d (.sl false 92 2 (List.map Arr.c (a))))), (3, .one (.ref [7] (q6))), (4, .one (.d (.v (.int .i64 ((j : Int)))))), (11, .one (.d (.v (.bool (decide ((j : Int) < (a.length : Int)))))))] [([7], (q6, q7, .row 98 2 (List.map Arr.c (fillTo a (Arr.mk .empty 0) j))))]) [⟨[4], some 8, [], []⟩, ⟨[0], some 9, [], []⟩, ⟨[9], some 10, [], []⟩, ⟨[8, 10], some 11, [], []⟩] (fun k8 => ?_) ?_
    · skip
      refine .move (.no rfl) rfl rfl rfl rfl ?_
      refine .move (.no rfl) rfl rfl rfl rfl ?_
      refine .len (.no rfl) rfl (z := (a.length : Int)) t23 rfl rfl rfl (.d _ _) (map_len _ _) rfl ?_
      refine .bin (.no rfl) rfl rfl rfl rfl rfl rfl ?_
      exact .fin () (.of (.cons rfl (.cons rfl (.cons rfl (.cons rfl .nil)))) (.cons rfl .nil))
    intro _
    refine .cond (t := decide ((j : Int) < (a.length : Int))) rfl (fun c0 => ?_) (fun c0 => ?_)
    · have c0 := of_decide_eq_true c0
      refine .skip ?_
      refine .seq ?_
      refine .block ?_
      refine .reg (X := Nat) (fun ζ => .of [(0, .one (.d (.sl false 92 2 (List.map Arr.c (a))))), (3, .one (.ref [7] (q6))), (4, .one (.d (.v (.int .i64 ((j : Int))))))] [([7], (q6, ζ, .row 98 2 (List.map Arr.c ((fillTo a (Arr.mk .empty 0) j).set j (a.getD j default)))))]) [⟨[3], some 14, [], []⟩, ⟨[4], some 15, [], []⟩, ⟨[0], some 16, [], []⟩, ⟨[4], some 17, [], []⟩, ⟨[16, 17], some 18, [], []⟩, ⟨[18], some 19, [], []⟩, ⟨[19], some 20, [], []⟩, ⟨[14, 15], some 21, [[7]], []⟩, ⟨[21, 20], none, [[7]], [[7]]⟩] (fun k9 => ?_) ?_
      · skip
        refine .move (.no rfl) rfl rfl rfl rfl ?_
        refine .move (.no rfl) rfl rfl rfl rfl ?_
        refine .move (.no rfl) rfl rfl rfl rfl ?_
        refine .move (.no rfl) rfl rfl rfl rfl ?_
        refine .indexAddr (.no rfl) rfl (j) t23 rfl t92 rfl rfl rfl (.d _ _) rfl rfl rfl (map_get (by first | omega | (rw [fillTo_len]; omega))) rfl rfl ?_
        refine .load (.no rfl) rfl t92 rfl rfl (.d _) rfl rfl rfl rfl ?_
        refine .call (.no rfl) rfl [] [] (c_toArr (a.getD j default)) rfl rfl rfl rfl rfl (.cons (Reads.d _).gives (.cons (Reads.d _).gives .nil)) rfl rfl (fun h => absurd rfl h) (.own [20, 0] (.own [20, 1] .nil)) (.nil) rfl rfl rfl (by simp) rfl rfl rfl ?_
        refine .indexAddr (.no rfl) rfl (j) t38 rfl t98 rfl rfl rfl (.ref _ _ _ _ _ rfl) rfl rfl rfl (map_get (by first | omega | (rw [fillTo_len]; omega))) rfl rfl ?_
        refine .storeE (.no rfl) rfl (els' := List.map Arr.c ((fillTo a (Arr.mk .empty 0) j).set j (a.getD j default))) t98 rfl rfl rfl rfl (map_get (by first | omega | (rw [fillTo_len]; omega))) rfl rfl (.cons _ _ _ _ _ _ (.d _) (.cons _ _ _ _ _ _ (.d _) .nil)) rfl (Nat.le_of_ble_eq_true rfl) (set_map _ _ _ (a.getD j default) _ rfl) rfl rfl ?_
        exact .fin (k9 + 1 + 1 + 1 + 1 + 1 + 1 + 1 + 1) (.of (.cons rfl (.cons rfl (.cons rfl .nil))) (.cons rfl .nil))
      intro g10
      refine .reg (X := Unit) (fun ζ => .of [(0, .one (.d (.sl false 92 2 (List.map Arr.c (a))))), (3, .one (.ref [7] (q6))), (4, .one (.d (.v (.int .i64 (IntKind.wrap .i64 ((j : Int) + 1))))))] [([7], (q6, g10, .row 98 2 (List.map Arr.c ((fillTo a (Arr.mk .empty 0) j).set j (a.getD j default)))))]) [⟨[4], some 12, [], []⟩, ⟨[12], some 13, [], []⟩, ⟨[13], some 4, [], []⟩] (fun k11 => ?_) ?_
      · skip
        refine .move (.no rfl) rfl rfl rfl rfl ?_
        refine .bin (.no rfl) rfl rfl rfl rfl rfl rfl ?_
        refine .assign (.no rfl) rfl rfl rfl rfl ?_
        exact .fin () (.of (.cons rfl (.cons rfl (.cons rfl .nil))) (.cons rfl .nil))
      intro _
      exact .here ((j + 1), q6, g10) (.of (.cons rfl (.cons rfl (.cons (svI (show (IntKind.wrap .i64 ((j : Int) + 1)) = (((j + 1) : Int)) by first | rfl | omega | exact wrap_le (by omega) (by omega) | (rw [wrap_le (by omega) (by omega)]; omega))) .nil))) (.cons (rowE (show List.map Arr.c ((fillTo a (Arr.mk .empty 0) j).set j (a.getD j default)) = List.map Arr.c (fillTo a (Arr.mk .empty 0) (j + 1)) by first | rfl | (rw [fillTo_zero]) | (rw [fillTo_step _ _ _ (by omega) rfl]))) .nil)) ⟨(show (j + 1) ≤ a.length by omega), (show a.length - (j + 1) < a.length - j by omega)⟩
    · have c0 := of_decide_eq_false c0
      refine .exit ?_
      refine .seq ?_
      refine .reg (X := Unit) (fun ζ => .of [(2, .one (.ref [7] (q6)))] [([7], (q6, q7, .row 98 2 (List.map Arr.c (fillTo a (Arr.mk .empty 0) j))))]) [⟨[3], some 22, [], []⟩, ⟨[22], some 2, [], []⟩] (fun k12 => ?_) ?_
      · skip
        refine .move (.no rfl) rfl rfl rfl rfl ?_
        refine .assign (.no rfl) rfl rfl rfl rfl ?_
        exact .fin () (.of (.cons rfl .nil) (.cons rfl .nil))
      intro _
      refine .ret ?_
      have e13 : (fillTo a (Arr.mk .empty 0) j) = (a) := by (exact fillTo_all _ _ (by omega))
      show _ ∧ _
      exact ⟨.inr rfl, .done ⟨_, [], [([7], (q6, q7, .row 98 2 (List.map Arr.c (a))))], _, .one rfl .nil, .cons (.ref (.head _)) .nil, nodupB_ok rfl, by simp, (AllH.get (.cons (rowE (congrArg (List.map Arr.c) e13)) .nil))⟩⟩
theorem c_toEnv (a : Env) (hb : a.ints.length ≤ 1048576 ∧ a.arrs.length ≤ 1048576) : Trip Tryd.prog 10 [(true, 3)] (Env.c28 a) [(true, 3)] [.v (.bool (a.live)), .sl true 97 2 (List.map Iv.c (a.ints)), .sl true 97 2 (List.map Iv.c (a.arrs))] [] := by
  refine Trip.of Tryd.func10 (by decide) (c := _) rfl rfl (shB_ok rfl) (Nat.le_of_ble_eq_true rfl) rfl (AftOk.nil _) ?_
  refine .satA (t := 0) (i := 1) rfl rfl (fun hs1 => ?_)
  have hs1l : a.ints.length ≤ 9223372036854775807 := hs1.maplen
  refine .satA (t := 0) (i := 2) rfl rfl (fun hs2 => ?_)
  have hs2l : a.arrs.length ≤ 9223372036854775807 := hs2.maplen
  refine .seq ?_
  refine .reg (X := Nat × Nat) (fun ζ => .of [(1, .one (.ptr [1] (ζ.1) 0)), (2, .one (.ptr [2] (ζ.2) 0))] [([1], (ζ.1, ζ.1, .box [.d (.v (.bool (a.live))), .d (.sl false 102 2 (List.map Iv.c (a.ints))), .d (.sl false 102 2 (List.map Iv.c (a.arrs)))])), ([2], (ζ.2, ζ.2, .box [.d (.v (.bool (false))), .d (.v (.slice none 0 0)), .d (.v (.slice none 0 0))]))]) [⟨[0], some 1, [], [[1]]⟩, ⟨[], some 2, [], [[2]]⟩] (fun k3 => ?_) ?_
  · skip
    refine .box (.no rfl) rfl rfl rfl rfl rfl ?_
    refine .alloc (.no rfl) rfl z44 rfl rfl rfl ?_
    exact .fin (k3, k3 + 1) (.of (.cons rfl (.cons rfl .nil)) (.cons rfl (.cons rfl .nil)))
  rintro ⟨g4, g5⟩
  refine .seq ?_
  refine .reg (X := Nat) (fun ζ => .of [(1, .one (.ptr [1] (g4) 0)), (2, .one (.ptr [2] (g5) 0)), (3, .one (.ptr [3] (ζ) 0))] [([1], (g4, g4, .box [.d (.v (.bool (a.live))), .d (.sl false 102 2 (List.map Iv.c (a.ints))), .d (.sl false 102 2 (List.map Iv.c (a.arrs)))])), ([2], (g5, g5, .box [.d (.v (.bool (false))), .d (.v (.slice none 0 0)), .d (.v (.slice none 0 0))])), ([3], (ζ, ζ, .box [.d (.v (.bool (false))), .d (.v (.slice none 0 0)), .d (.v (.slice none 0 0))]))]) [⟨[], some 3, [], [[3]]⟩] (fun k6 => ?_) ?_
  · skip
    refine .alloc (.no rfl) rfl z44 rfl rfl rfl ?_
    exact .fin k6 (.of (.cons rfl (.cons rfl (.cons rfl .nil))) (.cons rfl (.cons rfl (.cons rfl .nil))))
  intro g7
  refine .seq ?_
  refine .reg (X := Nat) (fun ζ => .of [(1, .one (.ptr [1] (g4) 0)), (2, .one (.ptr [2] (g5) 0)), (3, .one (.ptr [3] (g7) 0))] [([1], (g4, g4, .box [.d (.v (.bool (a.live))), .d (.sl false 102 2 (List.map Iv.c (a.ints))), .d (.sl false 102 2 (List.map Iv.c (a.arrs)))])), ([2], (g5, g5, .box [.d (.v (.bool (false))), .d (.v (.slice none 0 0)), .d (.v (.slice none 0 0))])), ([3], (g7, ζ, .box [.d (.v (.bool (a.live))), .d (.v (.slice none 0 0)), .d (.v (.slice none 0 0))]))]) [⟨[1], some 4, [], []⟩, ⟨[4], some 5, [[1]], []⟩, ⟨[3], some 6, [], []⟩, ⟨[6, 5], none, [[3]], [[3]]⟩] (fun k8 => ?_) ?_
  · skip
    refine .fieldAddrP (.no rfl) rfl t28 rfl rfl t4 rfl rfl rfl rfl ?_
    refine .load (.no rfl) rfl t4 rfl rfl (.ptr _ _ _ _ _ rfl) rfl rfl rfl rfl ?_
    refine .fieldAddrP (.no rfl) rfl t44 rfl rfl t4 rfl rfl rfl rfl ?_
    refine .store (.no rfl) rfl t4 rfl rfl rfl rfl rfl rfl rfl rfl rfl ?_
    exact .fin (k8 + 1 + 1 + 1) (.of (.cons rfl (.cons rfl (.cons rfl .nil))) (.cons rfl (.cons rfl (.cons rfl .nil))))
  intro g9
  refine .seq ?_
  refine .reg (X := Nat × Nat) (fun ζ => .of [(1, .one (.ptr [1] (g4) 0)), (2, .one (.ptr [2] (g5) 0)), (3, .one (.ptr [3] (g7) 0))] [([1], (g4, g4, .box [.d (.v (.bool (a.live))), .d (.sl false 102 2 (List.map Iv.c (a.ints))), .d (.sl false 102 2 (List.map Iv.c (a.arrs)))])), ([2], (g5, g5, .box [.d (.v (.bool (false))), .d (.v (.slice none 0 0)), .d (.v (.slice none 0 0))])), ([3], (g7, ζ.1, .box [.d (.v (.bool (a.live))), .ref [9, 0] (ζ.2), .d (.v (.slice none 0 0))])), ([9, 0], (ζ.2, ζ.2, .row 97 2 (List.map Iv.c (a.ints))))]) [⟨[1], some 7, [], []⟩, ⟨[7], some 8, [[1]], []⟩, ⟨[8], some 9, [], [[9, 0]]⟩, ⟨[3], some 10, [], []⟩, ⟨[10, 9], none, [[3]], [[3]]⟩] (fun k10 => ?_) ?_
  · skip
    refine .fieldAddrP (.no rfl) rfl t28 rfl rfl t26 rfl rfl rfl rfl ?_
    refine .load (.no rfl) rfl t26 rfl rfl (.ptr _ _ _ _ _ rfl) rfl rfl rfl rfl ?_
    refine .call (.no rfl) rfl [] [] (c_toIntervalS a.ints (by omega)) rfl rfl rfl rfl rfl (.cons (Reads.d _).gives .nil) rfl rfl (fun h => absurd rfl h) (.own [9, 0] .nil) (.nil) rfl rfl rfl (by simp) rfl rfl rfl ?_
    refine .fieldAddrP (.no rfl) rfl t44 rfl rfl t42 rfl rfl rfl rfl ?_
    refine .store (.no rfl) rfl t42 rfl rfl rfl rfl rfl rfl rfl rfl rfl ?_
    exact .fin (k10 + 1 + 1 + 1 + 1, k10 + 1 + 1) (.of (.cons rfl (.cons rfl (.cons rfl .nil))) (.cons rfl (.cons rfl (.cons rfl (.cons rfl .nil)))))
  rintro ⟨g11, g12⟩
  refine .seq ?_
  refine .reg (X := Nat × Nat) (fun ζ => .of [(2, .one (.ptr [2] (g5) 0)), (3, .one (.ptr [3] (g7) 0))] [([2], (g5, g5, .box [.d (.v (.bool (false))), .d (.v (.slice none 0 0)), .d (.v (.slice none 0 0))])), ([3], (g7, ζ.1, .box [.d (.v (.bool (a.live))), .ref [9, 0] (g12), .ref [13, 0] (ζ.2)])), ([9, 0], (g12, g12, .row 97 2 (List.map Iv.c (a.ints)))), ([13, 0], (ζ.2, ζ.2, .row 97 2 (List.map Iv.c (a.arrs))))]) [⟨[1], some 11, [], []⟩, ⟨[11], some 12, [[1]], []⟩, ⟨[12], some 13, [], [[13, 0]]⟩, ⟨[3], some 14, [], []⟩, ⟨[14, 13], none, [[3]], [[3]]⟩] (fun k13 => ?_) ?_
  · skip
    refine .fieldAddrP (.no rfl) rfl t28 rfl rfl t26 rfl rfl rfl rfl ?_
    refine .load (.no rfl) rfl t26 rfl rfl (.ptr _ _ _ _ _ rfl) rfl rfl rfl rfl ?_
    refine .call (.no rfl) rfl [] [] (c_toIntervalS a.arrs (by omega)) rfl rfl rfl rfl rfl (.cons (Reads.d _).gives .nil) rfl rfl (fun h => absurd rfl h) (.own [13, 0] .nil) (.nil) rfl rfl rfl (by simp) rfl rfl rfl ?_
    refine .fieldAddrP (.no rfl) rfl t44 rfl rfl t42 rfl rfl rfl rfl ?_
    refine .store (.no rfl) rfl t42 rfl rfl rfl rfl rfl rfl rfl rfl rfl ?_
    exact .fin (k13 + 1 + 1 + 1 + 1, k13 + 1 + 1) (.of (.cons rfl (.cons rfl .nil)) (.cons rfl (.cons rfl (.cons rfl (.cons rfl .nil)))))
  rintro ⟨g14, g15⟩
  refine .seq ?_
  refine .reg (X := Nat) (fun ζ => .of [(2, .one (.ptr [2] (g5) 0))] [([2], (g5, ζ, .box [.d (.v (.bool (a.live))), .ref [9, 0] (g12), .ref [13, 0] (g15)])), ([9, 0], (g12, g12, .row 97 2 (List.map Iv.c (a.ints)))), ([13, 0], (g15, g15, .row 97 2 (List.map Iv.c (a.arrs))))]) [⟨[3], some 15, [[3]], []⟩, ⟨[2, 15], none, [[2]], [[2]]⟩] (fun k16 => ?_) ?_
  · skip
    refine .load (.no rfl) rfl t44 rfl rfl (.ptr _ _ _ _ _ rfl) rfl rfl rfl rfl ?_
    refine .store (.no rfl) rfl t44 rfl rfl rfl rfl rfl rfl rfl rfl rfl ?_
    exact .fin (k16 + 1) (.of (.cons rfl .nil) (.cons rfl (.cons rfl (.cons rfl .nil))))
  intro g17
  refine .ret ?_
  show _ ∧ _
  exact ⟨.inr rfl, .done ⟨_, [], [([9, 0], (g12, g12, .row 97 2 (List.map Iv.c (a.ints)))), ([13, 0], (g15, g15, .row 97 2 (List.map Iv.c (a.arrs))))], _, .cell (cells := [.d (.v (.bool (a.live))), .ref [9, 0] (g12), .ref [13, 0] (g15)]) rfl rfl t44 rfl rfl .nil, .cons (Reads.d _).gives (.cons (.ref (.head _)) (.cons (.ref (.tail _ (.head _))) .nil)), nodupB_ok rfl, by simp, (AllH.get (.cons rfl (.cons rfl .nil)))⟩⟩
theorem c_toDecl (a : Decl) (hb : a.vars.length ≤ 1048576 ∧ a.flags.length ≤ 1048576 ∧ a.arrays.length ≤ 1048576) : Trip Tryd.prog 9 [(true, 3)] (Decl.c25 a) [(true, 3)] [.sl true 9 1 (List.map strc (a.vars)), .sl true 9 1 (List.map strc (a.flags)), .sl true 98 2 (List.map Arr.c (a.arrays))] [] := by
  refine Trip.of Tryd.func9 (by decide) (c := _) rfl rfl (shB_ok rfl) (Nat.le_of_ble_eq_true rfl) rfl (AftOk.nil _) ?_
  refine .satA (t := 0) (i := 0) rfl rfl (fun hs1 => ?_)
  have hs1l : a.vars.length ≤ 9223372036854775807 := hs1.maplen
  refine .satA (t := 0) (i := 1) rfl rfl (fun hs2 => ?_)
  have hs2l : a.flags.length ≤ 9223372036854775807 := hs2.maplen
  refine .satA (t := 0) (i := 2) rfl rfl (fun hs3 => ?_)
  have hs3l : a.arrays.length ≤ 9223372036854775807 := hs3.maplen
  refine .seq ?_
  refine .reg (X := Nat × Nat) (fun ζ => .of [(1, .one (.ptr [1] (ζ.1) 0)), (2, .one (.ptr [2] (ζ.2) 0))] [([1], (ζ.1, ζ.1, .box [.d (.sl false 9 1 (List.map strc (a.vars))), .d (.sl false 9 1 (List.map strc (a.flags))), .d (.sl false 92 2 (List.map Arr.c (a.arrays)))])), ([2], (ζ.2, ζ.2, .box [.d (.v (.slice none 0 0)), .d (.v (.slice none 0 0)), .d (.v (.slice none 0 0))]))]) [⟨[0], some 1, [], [[1]]⟩, ⟨[], some 2, [], [[2]]⟩] (fun k4 => ?_) ?_
  · skip
    refine .box (.no rfl) rfl rfl rfl rfl rfl ?_
    refine .alloc (.no rfl) rfl z40 rfl rfl rfl ?_
    exact .fin (k4, k4 + 1) (.of (.cons rfl (.cons rfl .nil)) (.cons rfl (.cons rfl .nil)))
  rintro ⟨g5, g6⟩
  refine .seq ?_
  refine .reg (X := Nat) (fun ζ => .of [(1, .one (.ptr [1] (g5) 0)), (2, .one (.ptr [2] (g6) 0)), (3, .one (.ptr [3] (ζ) 0))] [([1], (g5, g5, .box [.d (.sl false 9 1 (List.map strc (a.vars))), .d (.sl false 9 1 (List.map strc (a.flags))), .d (.sl false 92 2 (List.map Arr.c (a.arrays)))])), ([2], (g6, g6, .box [.d (.v (.slice none 0 0)), .d (.v (.slice none 0 0)), .d (.v (.slice none 0 0))])), ([3], (ζ, ζ, .box [.d (.v (.slice none 0 0)), .d (.v (.slice none 0 0)), .d (.v (.slice none 0 0))]))]) [⟨[], some 3, [], [[3]]⟩] (fun k7 => ?_) ?_
  · skip
    refine .alloc (.no rfl) rfl z40 rfl rfl rfl ?_
    exact .fin k7 (.of (.cons rfl (.cons rfl (.cons rfl .nil))) (.cons rfl (.cons rfl (.cons rfl .nil))))
  intro g8
  refine .seq ?_
  refine .reg (X := Nat × Nat) (fun ζ => .of [(1, .one (.ptr [1] (g5) 0)), (2, .one (.ptr [2] (g6) 0)), (3, .one (.ptr [3] (g8) 0))] [([1], (g5, g5, .box [.d (.sl false 9 1 (List.map strc (a.vars))), .d (.sl false 9 1 (List.map strc (a.flags))), .d (.sl false 92 2 (List.map Arr.c (a.arrays)))])), ([2], (g6, g6, .box [.d (.v (.slice none 0 0)), .d (.v (.slice none 0 0)), .d (.v (.slice none 0 0))])), ([3], (g8, ζ.1, .box [.ref [6, 0] (ζ.2), .d (.v (.slice none 0 0)), .d (.v (.slice none 0 0))])), ([6, 0], (ζ.2, ζ.2, .row 9 1 (List.map strc (a.vars))))]) [⟨[1], some 4, [], []⟩, ⟨[4], some 5, [[1]], []⟩, ⟨[5], some 6, [], [[6, 0]]⟩, ⟨[3], some 7, [], []⟩, ⟨[7, 6], none, [[3]], [[3]]⟩] (fun k9 => ?_) ?_
  · skip
    refine .fieldAddrP (.no rfl) rfl t25 rfl rfl t22 rfl rfl rfl rfl ?_
    refine .load (.no rfl) rfl t22 rfl rfl (.ptr _ _ _ _ _ rfl) rfl rfl rfl rfl ?_
    refine .call (.no rfl) rfl [] [] (c_toStringS a.vars (by omega)) rfl rfl rfl rfl rfl (.cons (Reads.d _).gives .nil) rfl rfl (fun h => absurd rfl h) (.own [6, 0] .nil) (.nil) rfl rfl rfl (by simp) rfl rfl rfl ?_
    refine .fieldAddrP (.no rfl) rfl t40 rfl rfl t22 rfl rfl rfl rfl ?_
    refine .store (.no rfl) rfl t22 rfl rfl rfl rfl rfl rfl rfl rfl rfl ?_
    exact .fin (k9 + 1 + 1 + 1 + 1, k9 + 1 + 1) (.of (.cons rfl (.cons rfl (.cons rfl .nil))) (.cons rfl (.cons rfl (.cons rfl (.cons rfl .nil)))))
  rintro ⟨g10, g11⟩
  refine .seq ?_
  refine .reg (X := Nat × Nat) (fun ζ => .of [(1, .one (.ptr [1] (g5) 0)), (2, .one (.ptr [2] (g6) 0)), (3, .one (.ptr [3] (g8) 0))] [([1], (g5, g5, .box [.d (.sl false 9 1 (List.map strc (a.vars))), .d (.sl false 9 1 (List.map strc (a.flags))), .d (.sl false 92 2 (List.map Arr.c (a.arrays)))])), ([2], (g6, g6, .box [.d (.v (.slice none 0 0)), .d (.v (.slice none 0 0)), .d (.v (.slice none 0 0))])), ([3], (g8, ζ.1, .box [.ref [6, 0] (g11), .ref [10, 0] (ζ.2), .d (.v (.slice none 0 0))])), ([6, 0], (g11, g11, .row 9 1 (List.map strc (a.vars)))), ([10, 0], (ζ.2, ζ.2, .row 9 1 (List.map strc (a.flags))))]) [⟨[1], some 8, [], []⟩, ⟨[8], some 9, [[1]], []⟩, ⟨[9], some 10, [], [[10, 0]]⟩, ⟨[3], some 11, [], []⟩, ⟨[11, 10], none, [[3]], [[3]]⟩] (fun k12 => ?_) ?_
  · skip
    refine .fieldAddrP (.no rfl) rfl t25 rfl rfl t22 rfl rfl rfl rfl ?_
    refine .load (.no rfl) rfl t22 rfl rfl (.ptr _ _ _ _ _ rfl) rfl rfl rfl rfl ?_
    refine .call (.no rfl) rfl [] [] (c_toStringS a.flags (by omega)) rfl rfl rfl rfl rfl (.cons (Reads.d _).gives .nil) rfl rfl (fun h => absurd rfl h) (.own [10, 0] .nil) (.nil) rfl rfl rfl (by simp) rfl rfl rfl ?_
    refine .fieldAddrP (.no rfl) rfl t40 rfl rfl t22 rfl rfl rfl rfl ?_
    refine .store (.no rfl) rfl t22 rfl rfl rfl rfl rfl rfl rfl rfl rfl ?_
    exact .fin (k12 + 1 + 1 + 1 + 1, k12 + 1 + 1) (.of (.cons rfl (.cons rfl (.cons rfl .nil))) (.cons rfl (.cons rfl (.cons rfl (.cons rfl (.cons rfl .nil))))))
  rintro ⟨g13, g14⟩
  refine .seq ?_
  refine .reg (X := Nat × Nat) (fun ζ => .of [(2, .one (.ptr [2] (g6) 0)), (3, .one (.ptr [3] (g8) 0))] [([2], (g6, g6, .box [.d (.v (.slice none 0 0)), .d (.v (.slice none 0 0)), .d (.v (.slice none 0 0))])), ([3], (g8, ζ.1, .box [.ref [6, 0] (g11), .ref [10, 0] (g14), .ref [14, 0] (ζ.2)])), ([6, 0], (g11, g11, .row 9 1 (List.map strc (a.vars)))), ([10, 0], (g14, g14, .row 9 1 (List.map strc (a.flags)))), ([14, 0], (ζ.2, ζ.2, .row 98 2 (List.map Arr.c (a.arrays))))]) [⟨[1], some 12, [], []⟩, ⟨[12], some 13, [[1]], []⟩, ⟨[13], some 14, [], [[14, 0]]⟩, ⟨[3], some 15, [], []⟩, ⟨[15, 14], none, [[3]], [[3]]⟩] (fun k15 => ?_) ?_
  · skip
    refine .fieldAddrP (.no rfl) rfl t25 rfl rfl t23 rfl rfl rfl rfl ?_
    refine .load (.no rfl) rfl t23 rfl rfl (.ptr _ _ _ _ _ rfl) rfl rfl rfl rfl ?_
    refine .call (.no rfl) rfl [] [] (c_toArrS a.arrays (by omega)) rfl rfl rfl rfl rfl (.cons (Reads.d _).gives .nil) rfl rfl (fun h => absurd rfl h) (.own [14, 0] .nil) (.nil) rfl rfl rfl (by simp) rfl rfl rfl ?_
    refine .fieldAddrP (.no rfl) rfl t40 rfl rfl t38 rfl rfl rfl rfl ?_
    refine .store (.no rfl) rfl t38 rfl rfl rfl rfl rfl rfl rfl rfl rfl ?_
    exact .fin (k15 + 1 + 1 + 1 + 1, k15 + 1 + 1) (.of (.cons rfl (.cons rfl .nil)) (.cons rfl (.cons rfl (.cons rfl (.cons rfl (.cons rfl .nil))))))
  rintro ⟨g16, g17⟩
  refine .seq ?_
  refine .reg (X := Nat) (fun ζ => .of [(2, .one (.ptr [2] (g6) 0))] [([2], (g6, ζ, .box [.ref [6, 0] (g11), .ref [10, 0] (g14), .ref [14, 0] (g17)])), ([6, 0], (g11, g11, .row 9 1 (List.map strc (a.vars)))), ([10, 0], (g14, g14, .row 9 1 (List.map strc (a.flags)))), ([14, 0], (g17, g17, .row 98 2 (List.map Arr.c (a.arrays))))]) [⟨[3], some 16, [[3]], []⟩, ⟨[2, 16], none, [[2]], [[2]]⟩] (fun k18 => ?_) ?_
  · skip
    refine .load (.no rfl) rfl t40 rfl rfl (.ptr _ _ _ _ _ rfl) rfl rfl rfl rfl ?_
    refine .store (.no rfl) rfl t40 rfl rfl rfl rfl rfl rfl rfl rfl rfl ?_
    exact .fin (k18 + 1) (.of (.cons rfl .nil) (.cons rfl (.cons rfl (.cons rfl (.cons rfl .nil)))))
  intro g19
  refine .ret ?_
  show _ ∧ _
  exact ⟨.inr rfl, .done ⟨_, [], [([6, 0], (g11, g11, .row 9 1 (List.map strc (a.vars)))), ([10, 0], (g14, g14, .row 9 1 (List.map strc (a.flags)))), ([14, 0], (g17, g17, .row 98 2 (List.map Arr.c (a.arrays))))], _, .cell (cells := [.ref [6, 0] (g11), .ref [10, 0] (g14), .ref [14, 0] (g17)]) rfl rfl t40 rfl rfl .nil, .cons (.ref (.head _)) (.cons (.ref (.tail _ (.head _))) (.cons (.ref (.tail _ (.tail _ (.head _)))) .nil)), nodupB_ok rfl, by simp, (AllH.get (.cons rfl (.cons rfl (.cons rfl .nil))))⟩⟩
theorem c_eqInterval (a : Iv) (b : Iv) : Trip Tryd.prog 70 [(true, 2), (true, 2)] (Iv.c a ++ Iv.c b) [(false, 1)] [.v (.bool (Iv.same a b))] [] := by
  refine Trip.of Tryd.func70 (by decide) (c := _) rfl rfl (shB_ok rfl) (Nat.le_of_ble_eq_true rfl) rfl (AftOk.nil _) ?_
  refine .seq ?_
  refine .reg (X := Nat × Nat) (fun ζ => .of [(2, .one (.ptr [2] (ζ.1) 0)), (3, .one (.ptr [3] (ζ.2) 0))] [([2], (ζ.1, ζ.1, .box [.d (.v (.int .i64 (a.lo))), .d (.v (.int .i64 (a.hi)))])), ([3], (ζ.2, ζ.2, .box [.d (.v (.int .i64 (b.lo))), .d (.v (.int .i64 (b.hi)))]))]) [⟨[0], some 2, [], [[2]]⟩, ⟨[1], some 3, [], [[3]]⟩, ⟨[], some 4, [], []⟩] (fun k1 => ?_) ?_
  · skip
    refine .box (.no rfl) rfl rfl rfl rfl rfl ?_
    refine .box (.no rfl) rfl rfl rfl rfl rfl ?_
    refine .assign (.no rfl) rfl rfl rfl rfl ?_
    exact .fin (k1, k1 + 1) (.of (.cons rfl (.cons rfl .nil)) (.cons rfl (.cons rfl .nil)))
  rintro ⟨g2, g3⟩
  refine .seq ?_
  refine .seq ?_
  refine .reg (X := Unit) (fun ζ => .of [(2, .one (.ptr [2] (g2) 0)), (3, .one (.ptr [3] (g3) 0)), (9, .one (.d (.v (.bool (a.lo != b.lo)))))] [([2], (g2, g2, .box [.d (.v (.int .i64 (a.lo))), .d (.v (.int .i64 (a.hi)))])), ([3], (g3, g3, .box [.d (.v (.int .i64 (b.lo))), .d (.v (.int .i64 (b.hi)))]))]) [⟨[2], some 5, [], []⟩, ⟨[5], some 6, [[2]], []⟩, ⟨[3], some 7, [], []⟩, ⟨[7], some 8, [[3]], []⟩, ⟨[6, 8], some 9, [], []⟩] (fun k4 => ?_) ?_
  · skip
    refine .fieldAddrP (.no rfl) rfl t97 rfl rfl t2 rfl rfl rfl rfl ?_
    refine .load (.no rfl) rfl t2 rfl rfl (.ptr _ _ _ _ _ rfl) rfl rfl rfl rfl ?_
    refine .fieldAddrP (.no rfl) rfl t97 rfl rfl t2 rfl rfl rfl rfl ?_
    refine .load (.no rfl) rfl t2 rfl rfl (.ptr _ _ _ _ _ rfl) rfl rfl rfl rfl ?_
    refine .bin (.no rfl) rfl rfl rfl rfl rfl rfl ?_
    exact .fin () (.of (.cons rfl (.cons rfl (.cons rfl .nil))) (.cons rfl (.cons rfl .nil)))
  intro _
  refine .cond (t := a.lo != b.lo) rfl (fun c0 => ?_) (fun c0 => ?_)
  · have c0 := (by simpa using c0 : ¬ (a.lo = b.lo))
    refine .seq ?_
    refine .reg (X := Unit) (fun ζ => .of [(4, .one (.d (.v (.bool (false)))))] []) [⟨[], some 4, [], []⟩] (fun k5 => ?_) ?_
    · skip
      refine .assign (.no rfl) rfl rfl rfl rfl ?_
      exact .fin () (.of (.cons rfl .nil) .nil)
    intro _
    refine .ret ?_
    have e6 : (false) = (Iv.same a b) := by (simp_all [Iv.same])
    have hc7 := eq1 (fun z1 => SV.one (.d (.v (.bool (z1))))) e6
    show _ ∧ _
    exact ⟨.inr rfl, .done ⟨_, [], [], _, .one (c := .d (.v (.bool (Iv.same a b)))) (hc7) .nil, .cons (Reads.d _).gives .nil, nodupB_ok rfl, by simp, (by simp)⟩⟩
  · have c0 := (by simpa using c0 : a.lo = b.lo)
    refine .skip ?_
    refine .seq ?_
    refine .seq ?_
    refine .reg (X := Unit) (fun ζ => .of [(14, .one (.d (.v (.bool (a.hi != b.hi)))))] []) [⟨[2], some 10, [], []⟩, ⟨[10], some 11, [[2]], []⟩, ⟨[3], some 12, [], []⟩, ⟨[12], some 13, [[3]], []⟩, ⟨[11, 13], some 14, [], []⟩] (fun k8 => ?_) ?_
    · skip
      refine .fieldAddrP (.no rfl) rfl t97 rfl rfl t2 rfl rfl rfl rfl ?_
      refine .load (.no rfl) rfl t2 rfl rfl (.ptr _ _ _ _ _ rfl) rfl rfl rfl rfl ?_
      refine .fieldAddrP (.no rfl) rfl t97 rfl rfl t2 rfl rfl rfl rfl ?_
      refine .load (.no rfl) rfl t2 rfl rfl (.ptr _ _ _ _ _ rfl) rfl rfl rfl rfl ?_
      refine .bin (.no rfl) rfl rfl rfl rfl rfl rfl ?_
      exact .fin () (.of (.cons rfl .nil) .nil)
    intro _
    refine .cond (t := a.hi != b.hi) rfl (fun c1 => ?_) (fun c1 => ?_)
    · have c1 := (by simpa using c1 : ¬ (a.hi = b.hi))
      refine .seq ?_
      refine .reg (X := Unit) (fun ζ => .of [(4, .one (.d (.v (.bool (false)))))] []) [⟨[], some 4, [], []⟩] (fun k9 => ?_) ?_
      · skip
        refine .assign (.no rfl) rfl rfl rfl rfl ?_
        exact .fin () (.of (.cons rfl .nil) .nil)
      intro _
      refine .ret ?_
      have e10 : (false) = (Iv.same a b) := by (simp_all [Iv.same])
      have hc11 := eq1 (fun z1 => SV.one (.d (.v (.bool (z1))))) e10
      show _ ∧ _
      exact ⟨.inr rfl, .done ⟨_, [], [], _, .one (c := .d (.v (.bool (Iv.same a b)))) (hc11) .nil, .cons (Reads.d _).gives .nil, nodupB_ok rfl, by simp, (by simp)⟩⟩
    · have c1 := (by simpa using c1 : a.hi = b.hi)
      refine .skip ?_
      refine .seq ?_
      refine .reg (X := Unit) (fun ζ => .of [(4, .one (.d (.v (.bool (true)))))] []) [⟨[], some 4, [], []⟩] (fun k12 => ?_) ?_
      · skip
        refine .assign (.no rfl) rfl rfl rfl rfl ?_
        exact .fin () (.of (.cons rfl .nil) .nil)
      intro _
      refine .ret ?_
      have e13 : (true) = (Iv.same a b) := by (simp_all [Iv.same])
      have hc14 := eq1 (fun z1 => SV.one (.d (.v (.bool (z1))))) e13
      show _ ∧ _
      exact ⟨.inr rfl, .done ⟨_, [], [], _, .one (c := .d (.v (.bool (Iv.same a b)))) (hc14) .nil, .cons (Reads.d _).gives .nil, nodupB_ok rfl, by simp, (by simp)⟩⟩
theorem c_eqArr (a : Arr) (b : Arr) : Trip Tryd.prog 69 [(true, 2), (true, 2)] (Arr.c a ++ Arr.c b) [(false, 1)] [.v (.bool (Arr.same a b))] [] := by
  refine Trip.of Tryd.func69 (by decide) (c := _) rfl rfl (shB_ok rfl) (Nat.le_of_ble_eq_true rfl) rfl (AftOk.nil _) ?_
  refine .seq ?_
  refine .reg (X := Nat × Nat) (fun ζ => .of [(2, .one (.ptr [2] (ζ.1) 0)), (3, .one (.ptr [3] (ζ.2) 0))] [([2], (ζ.1, ζ.1, .box [.d (.v (.string (a.name))), .d (.v (.int .i64 (a.size)))])), ([3], (ζ.2, ζ.2, .box [.d (.v (.string (b.name))), .d (.v (.int .i64 (b.size)))]))]) [⟨[0], some 2, [], [[2]]⟩, ⟨[1], some 3, [], [[3]]⟩, ⟨[], some 4, [], []⟩] (fun k1 => ?_) ?_
  · skip
    refine .box (.no rfl) rfl rfl rfl rfl rfl ?_
    refine .box (.no rfl) rfl rfl rfl rfl rfl ?_
    refine .assign (.no rfl) rfl rfl rfl rfl ?_
    exact .fin (k1, k1 + 1) (.of (.cons rfl (.cons rfl .nil)) (.cons rfl (.cons rfl .nil)))
  rintro ⟨g2, g3⟩
  refine .seq ?_
  refine .seq ?_
  refine .reg (X := Unit) (fun ζ => .of [(2, .one (.ptr [2] (g2) 0)), (3, .one (.ptr [3] (g3) 0)), (9, .one (.d (.v (.bool (!(a.name.toList == b.name.toList))))))] [([2], (g2, g2, .box [.d (.v (.string (a.name))), .d (.v (.int .i64 (a.size)))])), ([3], (g3, g3, .box [.d (.v (.string (b.name))), .d (.v (.int .i64 (b.size)))]))]) [⟨[2], some 5, [], []⟩, ⟨[5], some 6, [[2]], []⟩, ⟨[3], some 7, [], []⟩, ⟨[7], some 8, [[3]], []⟩, ⟨[6, 8], some 9, [], []⟩] (fun k4 => ?_) ?_
  · skip
    refine .fieldAddrP (.no rfl) rfl t98 rfl rfl t9 rfl rfl rfl rfl ?_
    refine .load (.no rfl) rfl t9 rfl rfl (.ptr _ _ _ _ _ rfl) rfl rfl rfl rfl ?_
    refine .fieldAddrP (.no rfl) rfl t98 rfl rfl t9 rfl rfl rfl rfl ?_
    refine .load (.no rfl) rfl t9 rfl rfl (.ptr _ _ _ _ _ rfl) rfl rfl rfl rfl ?_
    refine .bin (.no rfl) rfl rfl rfl rfl rfl rfl ?_
    exact .fin () (.of (.cons rfl (.cons rfl (.cons rfl .nil))) (.cons rfl (.cons rfl .nil)))
  intro _
  refine .cond (t := !(a.name.toList == b.name.toList)) rfl (fun c0 => ?_) (fun c0 => ?_)
  · have c0 := c0
    try simp only [Bool.or_eq_true, Bool.or_eq_false_iff, Bool.and_eq_true, Bool.and_eq_false_iff, decide_eq_true_eq, decide_eq_false_iff_not, Bool.not_eq_true', Bool.not_eq_false', bne_iff_ne, beq_iff_eq, bne_eq_false_iff_eq, beq_eq_false_iff_ne, ne_eq, Bool.not_eq_eq_eq_not, Bool.not_true, Bool.not_false] at c0
    refine .seq ?_
    refine .reg (X := Unit) (fun ζ => .of [(4, .one (.d (.v (.bool (false)))))] []) [⟨[], some 4, [], []⟩] (fun k5 => ?_) ?_
    · skip
      refine .assign (.no rfl) rfl rfl rfl rfl ?_
      exact .fin () (.of (.cons rfl .nil) .nil)
    intro _
    refine .ret ?_
    have e6 : (false) = (Arr.same a b) := by (simp_all [Arr.same, strEq])
    have hc7 := eq1 (fun z1 => SV.one (.d (.v (.bool (z1))))) e6
    show _ ∧ _
    exact ⟨.inr rfl, .done ⟨_, [], [], _, .one (c := .d (.v (.bool (Arr.same a b)))) (hc7) .nil, .cons (Reads.d _).gives .nil, nodupB_ok rfl, by simp, (by simp)⟩⟩
  · have c0 := c0
    try simp only [Bool.or_eq_true, Bool.or_eq_false_iff, Bool.and_eq_true, Bool.and_eq_false_iff, decide_eq_true_eq, decide_eq_false_iff_not, Bool.not_eq_true', Bool.not_eq_false', bne_iff_ne, beq_iff_eq, bne_eq_false_iff_eq, beq_eq_false_iff_ne, ne_eq, Bool.not_eq_eq_eq_not, Bool.not_true, Bool.not_false] at c0
    refine .skip ?_
    refine .seq ?_
    refine .seq ?_
    refine .reg (X := Unit) (fun ζ => .of [(14, .one (.d (.v (.bool (a.size != b.size)))))] []) [⟨[2], some 10, [], []⟩, ⟨[10], some 11, [[2]], []⟩, ⟨[3], some 12, [], []⟩, ⟨[12], some 13, [[3]], []⟩, ⟨[11, 13], some 14, [], []⟩] (fun k8 => ?_) ?_
    · skip
      refine .fieldAddrP (.no rfl) rfl t98 rfl rfl t2 rfl rfl rfl rfl ?_
      refine .load (.no rfl) rfl t2 rfl rfl (.ptr _ _ _ _ _ rfl) rfl rfl rfl rfl ?_
      refine .fieldAddrP (.no rfl) rfl t98 rfl rfl t2 rfl rfl rfl rfl ?_
      refine .load (.no rfl) rfl t2 rfl rfl (.ptr _ _ _ _ _ rfl) rfl rfl rfl rfl ?_
      refine .bin (.no rfl) rfl rfl rfl rfl rfl rfl ?_
      exact .fin () (.of (.cons rfl .nil) .nil)
    intro _
    refine .cond (t := a.size != b.size) rfl (fun c1 => ?_) (fun c1 => ?_)
    · have c1 := (by simpa using c1 : ¬ (a.size = b.size))
      refine .seq ?_
      refine .reg (X := Unit) (fun ζ => .of [(4, .one (.d (.v (.bool (false)))))] []) [⟨[], some 4, [], []⟩] (fun k9 => ?_) ?_
      · skip
        refine .assign (.no rfl) rfl rfl rfl rfl ?_
        exact .fin () (.of (.cons rfl .nil) .nil)
      intro _
      refine .ret ?_
      have e10 : (false) = (Arr.same a b) := by (simp_all [Arr.same, strEq])
      have hc11 := eq1 (fun z1 => SV.one (.d (.v (.bool (z1))))) e10
      show _ ∧ _
      exact ⟨.inr rfl, .done ⟨_, [], [], _, .one (c := .d (.v (.bool (Arr.same a b)))) (hc11) .nil, .cons (Reads.d _).gives .nil, nodupB_ok rfl, by simp, (by simp)⟩⟩
    · have c1 := (by simpa using c1 : a.size = b.size)
      refine .skip ?_
      refine .seq ?_
      refine .reg (X := Unit) (fun ζ => .of [(4, .one (.d (.v (.bool (true)))))] []) [⟨[], some 4, [], []⟩] (fun k12 => ?_) ?_
      · skip
        refine .assign (.no rfl) rfl rfl rfl rfl ?_
        exact .fin () (.of (.cons rfl .nil) .nil)
      intro _
      refine .ret ?_
      have e13 : (true) = (Arr.same a b) := by (simp_all [Arr.same, strEq])
      have hc14 := eq1 (fun z1 => SV.one (.d (.v (.bool (z1))))) e13
      show _ ∧ _
      exact ⟨.inr rfl, .done ⟨_, [], [], _, .one (c := .d (.v (.bool (Arr.same a b)))) (hc14) .nil, .cons (Reads.d _).gives .nil, nodupB_ok rfl, by simp, (by simp)⟩⟩
theorem c_eqIntervalS (a : List Iv) (b : List Iv) : Trip Tryd.prog 44 [(false, 1), (false, 1)] ([.sl false 97 2 (List.map Iv.c (a))] ++ [.sl false 97 2 (List.map Iv.c (b))]) [(false, 1)] [.v (.bool (all2 Iv.same a b))] [] := by
  refine Trip.of Tryd.func44 (by decide) (c := _) rfl rfl (shB_ok rfl) (Nat.le_of_ble_eq_true rfl) rfl (AftOk.nil _) ?_
  refine .sat (t := 0) rfl (fun hs1 => ?_)
  have hs1l : a.length ≤ 9223372036854775807 := hs1.maplen
  refine .sat (t := 1) rfl (fun hs2 => ?_)
  have hs2l : b.length ≤ 9223372036854775807 := hs2.maplen
  refine .seq ?_
  refine .reg (X := Unit) (fun ζ => .of [(0, .one (.d (.sl false 97 2 (List.map Iv.c (a))))), (1, .one (.d (.sl false 97 2 (List.map Iv.c (b)))))] []) [⟨[], some 4, [], []⟩] (fun k3 => ?_) ?_
  · skip
    refine .assign (.no rfl) rfl rfl rfl rfl ?_
    exact .fin () (.of (.cons rfl (.cons rfl .nil)) .nil)
  intro _
  refine .seq ?_
  refine .seq ?_
  refine .reg (X := Unit) (fun ζ => .of [(0, .one (.d (.sl false 97 2 (List.map Iv.c (a))))), (1, .one (.d (.sl false 97 2 (List.map Iv.c (b))))), (10, .one (.d (.v (.bool ((a.length : Int) != (b.length : Int))))))] []) [⟨[0], some 6, [], []⟩, ⟨[6], some 7, [], []⟩, ⟨[1], some 8, [], []⟩, ⟨[8], some 9, [], []⟩, ⟨[7, 9], some 10, [], []⟩] (fun k4 => ?_) ?_
  · skip
    refine .move (.no rfl) rfl rfl rfl rfl ?_
    refine .len (.no rfl) rfl (z := (a.length : Int)) t42 rfl rfl rfl (.d _ _) (map_len _ _) rfl ?_
    refine .move (.no rfl) rfl rfl rfl rfl ?_
    refine .len (.no rfl) rfl (z := (b.length : Int)) t42 rfl rfl rfl (.d _ _) (map_len _ _) rfl ?_
    refine .bin (.no rfl) rfl rfl rfl rfl rfl rfl ?_
    exact .fin () (.of (.cons rfl (.cons rfl (.cons rfl .nil))) .nil)
  intro _
  refine .cond (t := (a.length : Int) != (b.length : Int)) rfl (fun c0 => ?_) (fun c0 => ?_)
  · have c0 := (by simpa using c0 : ¬ ((a.length : Int) = (b.length : Int)))
    refine .seq ?_
    refine .reg (X := Unit) (fun ζ => .of [(4, .one (.d (.v (.bool (false)))))] []) [⟨[], some 4, [], []⟩] (fun k5 => ?_) ?_
    · skip
      refine .assign (.no rfl) rfl rfl rfl rfl ?_
      exact .fin () (.of (.cons rfl .nil) .nil)
    intro _
    refine .ret ?_
    have e6 : (false) = (all2 Iv.same a b) := by exact (all2_ne _ c0).symm
    have hc7 := eq1 (fun z1 => SV.one (.d (.v (.bool (z1))))) e6
    show _ ∧ _
    exact ⟨.inr rfl, .done ⟨_, [], [], _, .one (c := .d (.v (.bool (all2 Iv.same a b)))) (hc7) .nil, .cons (Reads.d _).gives .nil, nodupB_ok rfl, by simp, (by simp)⟩⟩
  · have c0 := (by simpa using c0 : (a.length : Int) = (b.length : Int))
    refine .skip ?_
    refine .seq ?_
    refine .seq ?_
    refine .reg (X := Unit) (fun ζ => .of [(0, .one (.d (.sl false 97 2 (List.map Iv.c (a))))), (1, .one (.d (.sl false 97 2 (List.map Iv.c (b))))), (5, .one (.d (.v (.int .i64 (0)))))] []) [⟨[], some 5, [], []⟩] (fun k8 => ?_) ?_
    · skip
      refine .assign (.no rfl) rfl rfl rfl rfl ?_
      exact .fin () (.of (.cons rfl (.cons rfl (.cons rfl .nil))) .nil)
    intro _
    refine .block ?_
    refine .loop (X := Nat) (fun ζ => .of [(0, .one (.d (.sl false 97 2 (List.map Iv.c (a))))), (1, .one (.d (.sl false 97 2 (List.map Iv.c (b))))), (5, .one (.d (.v (.int .i64 ((ζ : Int))))))] []) (fun ζ => ζ ≤ a.length ∧ a.length = b.length ∧ allTo ζ (fun i => Iv.same (a.getD i default) (b.getD i default)) = true) (fun ζ => a.length - ζ) ?_ ?_
    · skip
      exact .here 0 (.of (.cons rfl (.cons rfl (.cons (svI (show (0) = ((0 : Int)) by first | rfl | omega | exact wrap_le (by omega) (by omega) | (rw [wrap_le (by omega) (by omega)]; omega))) .nil))) .nil) (show 0 ≤ a.length ∧ a.length = b.length ∧ allTo 0 (fun i => Iv.same (a.getD i default) (b.getD i default)) = true by exact ⟨by omega, by omega, rfl⟩)
    · rintro j hI
      have hI : j ≤ a.length ∧ a.length = b.length ∧ allTo j (fun i => Iv.same (a.getD i default) (b.getD i default)) = true := hI
      refine .seq ?_
      refine .seq ?_
      refine .reg (X := Unit) (fun ζ => .of [(0, .one (.d (.sl false 97 2 (List.map Iv.c (a))))), (1, .one (.d (.sl false 97 2 (List.map Iv.c (b))))), (5, .one (.d (.v (.int .i64 ((j : Int)))))), (14, .one (.d (.v (.bool (decide ((j : Int) < (a.length : Int)))))))] []) [⟨[5], some 11, [], []⟩, ⟨[0], some 12, [], []⟩, ⟨[12], some 13, [], []⟩, ⟨[11, 13], some 14, [], []⟩] (fun k9 => ?_) ?_
      · skip
        refine .move (.no rfl) rfl rfl rfl rfl ?_
        refine .move (.no rfl) rfl rfl rfl rfl ?_
        refine .len (.no rfl) rfl (z := (a.length : Int)) t42 rfl rfl rfl (.d _ _) (map_len _ _) rfl ?_
        refine .bin (.no rfl) rfl rfl rfl rfl rfl rfl ?_
        exact .fin () (.of (.cons rfl (.cons rfl (.cons rfl (.cons rfl .nil)))) .nil)
      intro _
      refine .cond (t := decide ((j : Int) < (a.length : Int))) rfl (fun c1 => ?_) (fun c1 => ?_)
      · have c1 := of_decide_eq_true c1
        refine .skip ?_
        refine .seq ?_
        refine .block ?_
        refine .seq ?_
        refine .regD (X := Unit) (by kernel_rfl) (fun ζ => .of [(0, .one (.d (.sl false 97 2 (List.map Iv.c (a))))), (1, .one (.d (.sl false 97 2 (List.map Iv.c (b))))), (5, .one (.d (.v (.int .i64 ((j : Int)))))), (26, .one (.d (.v (.bool (!(Iv.same (a.getD j default) (b.getD j default)))))))] []) [⟨[0], some 17, [], []⟩, ⟨[5], some 18, [], []⟩, ⟨[17, 18], some 19, [], []⟩, ⟨[19], some 20, [], []⟩, ⟨[1], some 21, [], []⟩, ⟨[5], some 22, [], []⟩, ⟨[21, 22], some 23, [], []⟩, ⟨[23], some 24, [], []⟩, ⟨[20, 24], some 25, [], []⟩, ⟨[25], some 26, [], []⟩] (by kernel_rfl) (fun k10 => ?_) ?_
        · skip
          refine .move (.no rfl) rfl rfl rfl rfl ?_
          refine .move (.no rfl) rfl rfl rfl rfl ?_
          refine .indexAddr (.no rfl) rfl (j) t42 rfl t97 rfl rfl rfl (.d _ _) rfl rfl rfl (map_get (by omega)) rfl rfl ?_
          refine .load (.no rfl) rfl t97 rfl rfl (.d _) rfl rfl rfl rfl ?_
          refine .move (.no rfl) rfl rfl rfl rfl ?_
          refine .move (.no rfl) rfl rfl rfl rfl ?_
          refine .indexAddr (.no rfl) rfl (j) t42 rfl t97 rfl rfl rfl (.d _ _) rfl rfl rfl (map_get (by omega)) rfl rfl ?_
          refine .load (.no rfl) rfl t97 rfl rfl (.d _) rfl rfl rfl rfl ?_
          refine .call (.no rfl) rfl [] [] (c_eqInterval (a.getD j default) (b.getD j default)) rfl rfl rfl rfl rfl (.cons (Reads.d _).gives (.cons (Reads.d _).gives (.cons (Reads.d _).gives (.cons (Reads.d _).gives .nil)))) rfl rfl (fun h => absurd rfl h) (.own [25, 0] .nil) (.nil) rfl rfl rfl (by simp) rfl rfl rfl ?_
          refine .un (.no rfl) rfl rfl rfl rfl rfl ?_
          exact .fin () (.of (.cons rfl (.cons rfl (.cons rfl (.cons rfl .nil)))) .nil)
        intro _
        refine .cond (t := !(Iv.same (a.getD j default) (b.getD j default))) rfl (fun c2 => ?_) (fun c2 => ?_)
        · have c2 := c2
          try simp only [Bool.or_eq_true, Bool.or_eq_false_iff, Bool.and_eq_true, Bool.and_eq_false_iff, decide_eq_true_eq, decide_eq_false_iff_not, Bool.not_eq_true', Bool.not_eq_false', bne_iff_ne, beq_iff_eq, bne_eq_false_iff_eq, beq_eq_false_iff_ne, ne_eq, Bool.not_eq_eq_eq_not, Bool.not_true, Bool.not_false] at c2
          refine .seq ?_
          refine .reg (X := Unit) (fun ζ => .of [(4, .one (.d (.v (.bool (false)))))] []) [⟨[], some 4, [], []⟩] (fun k11 => ?_) ?_
          · skip
            refine .assign (.no rfl) rfl rfl rfl rfl ?_
            exact .fin () (.of (.cons rfl .nil) .nil)
          intro _
          refine .ret ?_
          have e12 : (false) = (all2 Iv.same a b) := by exact (all2_fail _ (j := j) (by omega) (by simpa [] using c2)).symm
          have hc13 := eq1 (fun z1 => SV.one (.d (.v (.bool (z1))))) e12
          show _ ∧ _
          exact ⟨.inr rfl, .done ⟨_, [], [], _, .one (c := .d (.v (.bool (all2 Iv.same a b)))) (hc13) .nil, .cons (Reads.d _).gives .nil, nodupB_ok rfl, by simp, (by simp)⟩⟩
        · have c2 := c2
          try simp only [Bool.or_eq_true, Bool.or_eq_false_iff, Bool.and_eq_true, Bool.and_eq_false_iff, decide_eq_true_eq, decide_eq_false_iff_not, Bool.not_eq_true', Bool.not_eq_false', bne_iff_ne, beq_iff_eq, bne_eq_false_iff_eq, beq_eq_false_iff_ne, ne_eq, Bool.not_eq_eq_eq_not, Bool.not_true, Bool.not_false] at c2
          refine .skip ?_
          refine .reg (X := Unit) (fun ζ => .of [(0, .one (.d (.sl false 97 2 (List.map Iv.c (a))))), (1, .one (.d (.sl false 97 2 (List.map Iv.c (b))))), (5, .one (.d (.v (.int .i64 (IntKind.wrap .i64 ((j : Int) + 1))))))] []) [⟨[5], some 15, [], []⟩, ⟨[15], some 16, [], []⟩, ⟨[16], some 5, [], []⟩] (fun k14 => ?_) ?_
          · skip
            refine .move (.no rfl) rfl rfl rfl rfl ?_
            refine .bin (.no rfl) rfl rfl rfl rfl rfl rfl ?_
            refine .assign (.no rfl) rfl rfl rfl rfl ?_
            exact .fin () (.of (.cons rfl (.cons rfl (.cons rfl .nil))) .nil)
          intro _
          exact .here (j + 1) (.of (.cons rfl (.cons rfl (.cons (svI (show (IntKind.wrap .i64 ((j : Int) + 1)) = (((j + 1) : Int)) by first | rfl | omega | exact wrap_le (by omega) (by omega) | (rw [wrap_le (by omega) (by omega)]; omega))) .nil))) .nil) ⟨(show (j + 1) ≤ a.length ∧ a.length = b.length ∧ allTo (j + 1) (fun i => Iv.same (a.getD i default) (b.getD i default)) = true by exact ⟨by omega, by omega, allTo_step hI.2.2 (by simpa [] using c2)⟩), (show a.length - (j + 1) < a.length - j by omega)⟩
      · have c1 := of_decide_eq_false c1
        refine .exit ?_
        refine .seq ?_
        refine .reg (X := Unit) (fun ζ => .of [(4, .one (.d (.v (.bool (true)))))] []) [⟨[], some 4, [], []⟩] (fun k15 => ?_) ?_
        · skip
          refine .assign (.no rfl) rfl rfl rfl rfl ?_
          exact .fin () (.of (.cons rfl .nil) .nil)
        intro _
        refine .ret ?_
        have e16 : (true) = (all2 Iv.same a b) := by (have hj : j = a.length := (by omega); subst hj; exact (all2_done _ hI.2.1 hI.2.2).symm)
        have hc17 := eq1 (fun z1 => SV.one (.d (.v (.bool (z1))))) e16
        show _ ∧ _
        exact ⟨.inr rfl, .done ⟨_, [], [], _, .one (c := .d (.v (.bool (all2 Iv.same a b)))) (hc17) .nil, .cons (Reads.d _).gives .nil, nodupB_ok rfl, by simp, (by simp)⟩⟩
theorem c_eqStringS (a : List ByteArray) (b : List ByteArray) : Trip Tryd.prog 42 [(false, 1), (false, 1)] ([.sl false 9 1 (List.map strc (a))] ++ [.sl false 9 1 (List.map strc (b))]) [(false, 1)] [.v (.bool (all2 strEq a b))] [] := by
  refine Trip.of Tryd.func42 (by decide) (c := _) rfl rfl (shB_ok rfl) (Nat.le_of_ble_eq_true rfl) rfl (AftOk.nil _) ?_
  refine .sat (t := 0) rfl (fun hs1 => ?_)
  have hs1l : a.length ≤ 9223372036854775807 := hs1.maplen
  refine .sat (t := 1) rfl (fun hs2 => ?_)
  have hs2l : b.length ≤ 9223372036854775807 := hs2.maplen
  refine .seq ?_
  refine .reg (X := Unit) (fun ζ => .of [(0, .one (.d (.sl false 9 1 (List.map strc (a))))), (1, .one (.d (.sl false 9 1 (List.map strc (b)))))] []) [⟨[], some 4, [], []⟩] (fun k3 => ?_) ?_
  · skip
    refine .assign (.no rfl) rfl rfl rfl rfl ?_
    exact .fin () (.of (.cons rfl (.cons rfl .nil)) .nil)
  intro _
  refine .seq ?_
  refine .seq ?_
  refine .reg (X := Unit) (fun ζ => .of [(0, .one (.d (.sl false 9 1 (List.map strc (a))))), (1, .one (.d (.sl false 9 1 (List.map strc (b))))), (10, .one (.d (.v (.bool ((a.length : Int) != (b.length : Int))))))] []) [⟨[0], some 6, [], []⟩, ⟨[6], some 7, [], []⟩, ⟨[1], some 8, [], []⟩, ⟨[8], some 9, [], []⟩, ⟨[7, 9], some 10, [], []⟩] (fun k4 => ?_) ?_
  · skip
    refine .move (.no rfl) rfl rfl rfl rfl ?_
    refine .len (.no rfl) rfl (z := (a.length : Int)) t22 rfl rfl rfl (.d _ _) (map_len _ _) rfl ?_
    refine .move (.no rfl) rfl rfl rfl rfl ?_
    refine .len (.no rfl) rfl (z := (b.length : Int)) t22 rfl rfl rfl (.d _ _) (map_len _ _) rfl ?_
    refine .bin (.no rfl) rfl rfl rfl rfl rfl rfl ?_
    exact .fin () (.of (.cons rfl (.cons rfl (.cons rfl .nil))) .nil)
  intro _
  refine .cond (t := (a.length : Int) != (b.length : Int)) rfl (fun c0 => ?_) (fun c0 => ?_)
  · have c0 := (by simpa using c0 : ¬ ((a.length : Int) = (b.length : Int)))
    refine .seq ?_
    refine .reg (X := Unit) (fun ζ => .of [(4, .one (.d (.v (.bool (false)))))] []) [⟨[], some 4, [], []⟩] (fun k5 => ?_) ?_
    · skip
      refine .assign (.no rfl) rfl rfl rfl rfl ?_
      exact .fin () (.of (.cons rfl .nil) .nil)
    intro _
    refine .ret ?_
    have e6 : (false) = (all2 strEq a b) := by exact (all2_ne _ c0).symm
    have hc7 := eq1 (fun z1 => SV.one (.d (.v (.bool (z1))))) e6
    show _ ∧ _
    exact ⟨.inr rfl, .done ⟨_, [], [], _, .one (c := .d (.v (.bool (all2 strEq a b)))) (hc7) .nil, .cons (Reads.d _).gives .nil, nodupB_ok rfl, by simp, (by simp)⟩⟩
  · have c0 := (by simpa using c0 : (a.length : Int) = (b.length : Int))
    refine .skip ?_
    refine .seq ?_
    refine .seq ?_
    refine .reg (X := Unit) (fun ζ => .of [(0, .one (.d (.sl false 9 1 (List.map strc (a))))), (1, .one (.d (.sl false 9 1 (List.map strc (b))))), (5, .one (.d (.v (.int .i64 (0)))))] []) [⟨[], some 5, [], []⟩] (fun k8 => ?_) ?_
    · skip
      refine .assign (.no rfl) rfl rfl rfl rfl ?_
      exact .fin () (.of (.cons rfl (.cons rfl (.cons rfl .nil))) .nil)
    intro _
    refine .block ?_
    refine .loop (X := Nat) (fun ζ => .of [(0, .one (.d (.sl false 9 1 (List.map strc (a))))), (1, .one (.d (.sl false 9 1 (List.map strc (b))))), (5, .one (.d (.v (.int .i64 ((ζ : Int))))))] []) (fun ζ => ζ ≤ a.length ∧ a.length = b.length ∧ allTo ζ (fun i => strEq (a.getD i default) (b.getD i default)) = true) (fun ζ => a.length - ζ) ?_ ?_
    · skip
      exact .here 0 (.of (.cons rfl (.cons rfl (.cons (svI (show (0) = ((0 : Int)) by first | rfl | omega | exact wrap_le (by omega) (by omega) | (rw [wrap_le (by omega) (by omega)]; omega))) .nil))) .nil) (show 0 ≤ a.length ∧ a.length = b.length ∧ allTo 0 (fun i => strEq (a.getD i default) (b.getD i default)) = true by exact ⟨by omega, by omega, rfl⟩)
    · rintro j hI
      have hI : j ≤ a.length ∧ a.length = b.length ∧ allTo j (fun i => strEq (a.getD i default) (b.getD i default)) = true := hI
      refine .seq ?_
      refine .seq ?_
      refine .reg (X := Unit) (fun ζ => .of [(0, .one (.d (.sl false 9 1 (List.map strc (a))))), (1, .one (.d (.sl false 9 1 (List.map strc (b))))), (5, .one (.d (.v (.int .i64 ((j : Int)))))), (14, .one (.d (.v (.bool (decide ((j : Int) < (a.length : Int)))))))] []) [⟨[5], some 11, [], []⟩, ⟨[0], some 12, [], []⟩, ⟨[12], some 13, [], []⟩, ⟨[11, 13], some 14, [], []⟩] (fun k9 => ?_) ?_
      · skip
        refine .move (.no rfl) rfl rfl rfl rfl ?_
        refine .move (.no rfl) rfl rfl rfl rfl ?_
        refine .len (.no rfl) rfl (z := (a.length : Int)) t22 rfl rfl rfl (.d _ _) (map_len _ _) rfl ?_
        refine .bin (.no rfl) rfl rfl rfl rfl rfl rfl ?_
        exact .fin () (.of (.cons rfl (.cons rfl (.cons rfl (.cons rfl .nil)))) .nil)
      intro _
      refine .cond (t := decide ((j : Int) < (a.length : Int))) rfl (fun c1 => ?_) (fun c1 => ?_)
      · have c1 := of_decide_eq_true c1
        refine .skip ?_
        refine .seq ?_
        refine .block ?_
        refine .seq ?_
        refine .regD (X := Unit) (by kernel_rfl) (fun ζ => .of [(0, .one (.d (.sl false 9 1 (List.map strc (a))))), (1, .one (.d (.sl false 9 1 (List.map strc (b))))), (5, .one (.d (.v (.int .i64 ((j : Int)))))), (25, .one (.d (.v (.bool (!((a.getD j default).toList == (b.getD j default).toList))))))] []) [⟨[0], some 17, [], []⟩, ⟨[5], some 18, [], []⟩, ⟨[17, 18], some 19, [], []⟩, ⟨[19], some 20, [], []⟩, ⟨[1], some 21, [], []⟩, ⟨[5], some 22, [], []⟩, ⟨[21, 22], some 23, [], []⟩, ⟨[23], some 24, [], []⟩, ⟨[20, 24], some 25, [], []⟩] (by kernel_rfl) (fun k10 => ?_) ?_
        · skip
          refine .move (.no rfl) rfl rfl rfl rfl ?_
          refine .move (.no rfl) rfl rfl rfl rfl ?_
          refine .indexAddr (.no rfl) rfl (j) t22 rfl t9 rfl rfl rfl (.d _ _) rfl rfl rfl (map_get (by omega)) rfl rfl ?_
          refine .load (.no rfl) rfl t9 rfl rfl (.d _) rfl rfl rfl rfl ?_
          refine .move (.no rfl) rfl rfl rfl rfl ?_
          refine .move (.no rfl) rfl rfl rfl rfl ?_
          refine .indexAddr (.no rfl) rfl (j) t22 rfl t9 rfl rfl rfl (.d _ _) rfl rfl rfl (map_get (by omega)) rfl rfl ?_
          refine .load (.no rfl) rfl t9 rfl rfl (.d _) rfl rfl rfl rfl ?_
          refine .bin (.no rfl) rfl rfl rfl rfl rfl rfl ?_
          exact .fin () (.of (.cons rfl (.cons rfl (.cons rfl (.cons rfl .nil)))) .nil)
        intro _
        refine .cond (t := !((a.getD j default).toList == (b.getD j default).toList)) rfl (fun c2 => ?_) (fun c2 => ?_)
        · have c2 := c2
          try simp only [Bool.or_eq_true, Bool.or_eq_false_iff, Bool.and_eq_true, Bool.and_eq_false_iff, decide_eq_true_eq, decide_eq_false_iff_not, Bool.not_eq_true', Bool.not_eq_false', bne_iff_ne, beq_iff_eq, bne_eq_false_iff_eq, beq_eq_false_iff_ne, ne_eq, Bool.not_eq_eq_eq_not, Bool.not_true, Bool.not_false] at c2
          refine .seq ?_
          refine .reg (X := Unit) (fun ζ => .of [(4, .one (.d (.v (.bool (false)))))] []) [⟨[], some 4, [], []⟩] (fun k11 => ?_) ?_
          · skip
            refine .assign (.no rfl) rfl rfl rfl rfl ?_
            exact .fin () (.of (.cons rfl .nil) .nil)
          intro _
          refine .ret ?_
          have e12 : (false) = (all2 strEq a b) := by exact (all2_fail _ (j := j) (by omega) (by simpa [strEq] using c2)).symm
          have hc13 := eq1 (fun z1 => SV.one (.d (.v (.bool (z1))))) e12
          show _ ∧ _
          exact ⟨.inr rfl, .done ⟨_, [], [], _, .one (c := .d (.v (.bool (all2 strEq a b)))) (hc13) .nil, .cons (Reads.d _).gives .nil, nodupB_ok rfl, by simp, (by simp)⟩⟩
        · have c2 := c2
          try simp only [Bool.or_eq_true, Bool.or_eq_false_iff, Bool.and_eq_true, Bool.and_eq_false_iff, decide_eq_true_eq, decide_eq_false_iff_not, Bool.not_eq_true', Bool.not_eq_false', bne_iff_ne, beq_iff_eq, bne_eq_false_iff_eq, beq_eq_false_iff_ne, ne_eq, Bool.not_eq_eq_eq_not, Bool.not_true, Bool.not_false] at c2
          refine .skip ?_
          refine .reg (X := Unit) (fun ζ => .of [(0, .one (.d (.sl false 9 1 (List.map strc (a))))), (1, .one (.d (.sl false 9 1 (List.map strc (b))))), (5, .one (.d (.v (.int .i64 (IntKind.wrap .i64 ((j : Int) + 1))))))] []) [⟨[5], some 15, [], []⟩, ⟨[15], some 16, [], []⟩, ⟨[16], some 5, [], []⟩] (fun k14 => ?_) ?_
          · skip
            refine .move (.no rfl) rfl rfl rfl rfl ?_
            refine .bin (.no rfl) rfl rfl rfl rfl rfl rfl ?_
            refine .assign (.no rfl) rfl rfl rfl rfl ?_
            exact .fin () (.of (.cons rfl (.cons rfl (.cons rfl .nil))) .nil)
          intro _
          exact .here (j + 1) (.of (.cons rfl (.cons rfl (.cons (svI (show (IntKind.wrap .i64 ((j : Int) + 1)) = (((j + 1) : Int)) by first | rfl | omega | exact wrap_le (by omega) (by omega) | (rw [wrap_le (by omega) (by omega)]; omega))) .nil))) .nil) ⟨(show (j + 1) ≤ a.length ∧ a.length = b.length ∧ allTo (j + 1) (fun i => strEq (a.getD i default) (b.getD i default)) = true by exact ⟨by omega, by omega, allTo_step hI.2.2 (by simpa [strEq] using c2)⟩), (show a.length - (j + 1) < a.length - j by omega)⟩
      · have c1 := of_decide_eq_false c1
        refine .exit ?_
        refine .seq ?_
        refine .reg (X := Unit) (fun ζ => .of [(4, .one (.d (.v (.bool (true)))))] []) [⟨[], some 4, [], []⟩] (fun k15 => ?_) ?_
        · skip
          refine .assign (.no rfl) rfl rfl rfl rfl ?_
          exact .fin () (.of (.cons rfl .nil) .nil)
        intro _
        refine .ret ?_
        have e16 : (true) = (all2 strEq a b) := by (have hj : j = a.length := (by omega); subst hj; exact (all2_done _ hI.2.1 hI.2.2).symm)
        have hc17 := eq1 (fun z1 => SV.one (.d (.v (.bool (z1))))) e16
        show _ ∧ _
        exact ⟨.inr rfl, .done ⟨_, [], [], _, .one (c := .d (.v (.bool (all2 strEq a b)))) (hc17) .nil, .cons (Reads.d _).gives .nil, nodupB_ok rfl, by simp, (by simp)⟩⟩
theorem c_eqArrS (a : List Arr) (b : List Arr) : Trip Tryd.prog 43 [(false, 1), (false, 1)] ([.sl false 98 2 (List.map Arr.c (a))] ++ [.sl false 98 2 (List.map Arr.c (b))]) [(false, 1)] [.v (.bool (all2 Arr.same a b))] [] := by
  refine Trip.of Tryd.func43 (by decide) (c := _) rfl rfl (shB_ok rfl) (Nat.le_of_ble_eq_true rfl) rfl (AftOk.nil _) ?_
  refine .sat (t := 0) rfl (fun hs1 => ?_)
  have hs1l : a.length ≤ 9223372036854775807 := hs1.maplen
  refine .sat (t := 1) rfl (fun hs2 => ?_)
  have hs2l : b.length ≤ 9223372036854775807 := hs2.maplen
  refine .seq ?_
  refine .reg (X := Unit) (fun ζ => .of [(0, .one (.d (.sl false 98 2 (List.map Arr.c (a))))), (1, .one (.d (.sl false 98 2 (List.map Arr.c (b)))))] []) [⟨[], some 4, [], []⟩] (fun k3 => ?_) ?_
  · skip
    refine .assign (.no rfl) rfl rfl rfl rfl ?_
    exact .fin () (.of (.cons rfl (.cons rfl .nil)) .nil)
  intro _
  refine .seq ?_
  refine .seq ?_
  refine .reg (X := Unit) (fun ζ => .of [(0, .one (.d (.sl false 98 2 (List.map Arr.c (a))))), (1, .one (.d (.sl false 98 2 (List.map Arr.c (b))))), (10, .one (.d (.v (.bool ((a.length : Int) != (b.length : Int))))))] []) [⟨[0], some 6, [], []⟩, ⟨[6], some 7, [], []⟩, ⟨[1], some 8, [], []⟩, ⟨[8], some 9, [], []⟩, ⟨[7, 9], some 10, [], []⟩] (fun k4 => ?_) ?_
  · skip
    refine .move (.no rfl) rfl rfl rfl rfl ?_
    refine .len (.no rfl) rfl (z := (a.length : Int)) t38 rfl rfl rfl (.d _ _) (map_len _ _) rfl ?_
    refine .move (.no rfl) rfl rfl rfl rfl ?_
    refine .len (.no rfl) rfl (z := (b.length : Int)) t38 rfl rfl rfl (.d _ _) (map_len _ _) rfl ?_
    refine .bin (.no rfl) rfl rfl rfl rfl rfl rfl ?_
    exact .fin () (.of (.cons rfl (.cons rfl (.cons rfl .nil))) .nil)
  intro _
  refine .cond (t := (a.length : Int) != (b.length : Int)) rfl (fun c0 => ?_) (fun c0 => ?_)
  · have c0 := (by simpa using c0 : ¬ ((a.length : Int) = (b.length : Int)))
    refine .seq ?_
    refine .reg (X := Unit) (fun ζ => .of [(4, .one (.d (.v (.bool (false)))))] []) [⟨[], some 4, [], []⟩] (fun k5 => ?_) ?_
    · skip
      refine .assign (.no rfl) rfl rfl rfl rfl ?_
      exact .fin () (.of (.cons rfl .nil) .nil)
    intro _
    refine .ret ?_
    have e6 : (false) = (all2 Arr.same a b) := by exact (all2_ne _ c0).symm
    have hc7 := eq1 (fun z1 => SV.one (.d (.v (.bool (z1))))) e6
    show _ ∧ _
    exact ⟨.inr rfl, .done ⟨_, [], [], _, .one (c := .d (.v (.bool (all2 Arr.same a b)))) (hc7) .nil, .cons (Reads.d _).gives .nil, nodupB_ok rfl, by simp, (by simp)⟩⟩
  · have c0 := (by simpa using c0 : (a.length : Int) = (b.length : Int))
    refine .skip ?_
    refine .seq ?_
    refine .seq ?_
    refine .reg (X := Unit) (fun ζ => .of [(0, .one (.d (.sl false 98 2 (List.map Arr.c (a))))), (1, .one (.d (.sl false 98 2 (List.map Arr.c (b))))), (5, .one (.d (.v (.int .i64 (0)))))] []) [⟨[], some 5, [], []⟩] (fun k8 => ?_) ?_
    · skip
      refine .assign (.no rfl) rfl rfl rfl rfl ?_
      exact .fin () (.of (.cons rfl (.cons rfl (.cons rfl .nil))) .nil)
    intro _
    refine .block ?_
    refine .loop (X := Nat) (fun ζ => .of [(0, .one (.d (.sl false 98 2 (List.map Arr.c (a))))), (1, .one (.d (.sl false 98 2 (List.map Arr.c (b))))), (5, .one (.d (.v (.int .i64 ((ζ : Int))))))] []) (fun ζ => ζ ≤ a.length ∧ a.length = b.length ∧ allTo ζ (fun i => Arr.same (a.getD i default) (b.getD i default)) = true) (fun ζ => a.length - ζ) ?_ ?_
    · skip
      exact .here 0 (.of (.cons rfl (.cons rfl (.cons (svI (show (0) = ((0 : Int)) by first | rfl | omega | exact wrap_le (by omega) (by omega) | (rw [wrap_le (by omega) (by omega)]; omega))) .nil))) .nil) (show 0 ≤ a.length ∧ a.length = b.length ∧ allTo 0 (fun i => Arr.same (a.getD i default) (b.getD i default)) = true by exact ⟨by omega, by omega, rfl⟩)
    · rintro j hI
      have hI : j ≤ a.length ∧ a.length = b.length ∧ allTo j (fun i => Arr.same (a.getD i default) (b.getD i default)) = true := hI
      refine .seq ?_
      refine .seq ?_
      refine .reg (X := Unit) (fun ζ => .of [(0, .one (.d (.sl false 98 2 (List.map Arr.c (a))))), (1, .one (.d (.sl false 98 2 (List.map Arr.c (b))))), (5, .one (.d (.v (.int .i64 ((j : Int)))))), (14, .one (.d (.v (.bool (decide ((j : Int) < (a.length : Int)))))))] []) [⟨[5], some 11, [], []⟩, ⟨[0], some 12, [], []⟩, ⟨[12], some 13, [], []⟩, ⟨[11, 13], some 14, [], []⟩] (fun k9 => ?_) ?_
      · skip
        refine .move (.no rfl) rfl rfl rfl rfl ?_
        refine .move (.no rfl) rfl rfl rfl rfl ?_
        refine .len (.no rfl) rfl (z := (a.length : Int)) t38 rfl rfl rfl (.d _ _) (map_len _ _) rfl ?_
        refine .bin (.no rfl) rfl rfl rfl rfl rfl rfl ?_
        exact .fin () (.of (.cons rfl (.cons rfl (.cons rfl (.cons rfl .nil)))) .nil)
      intro _
      refine .cond (t := decide ((j : Int) < (a.length : Int))) rfl (fun c1 => ?_) (fun c1 => ?_)
      · have c1 := of_decide_eq_true c1
        refine .skip ?_
        refine .seq ?_
        refine .block ?_
        refine .seq ?_
        refine .regD (X := Unit) (by kernel_rfl) (fun ζ => .of [(0, .one (.d (.sl false 98 2 (List.map Arr.c (a))))), (1, .one (.d (.sl false 98 2 (List.map Arr.c (b))))), (5, .one (.d (.v (.int .i64 ((j : Int)))))), (26, .one (.d (.v (.bool (!(Arr.same (a.getD j default) (b.getD j default)))))))] []) [⟨[0], some 17, [], []⟩, ⟨[5], some 18, [], []⟩, ⟨[17, 18], some 19, [], []⟩, ⟨[19], some 20, [], []⟩, ⟨[1], some 21, [], []⟩, ⟨[5], some 22, [], []⟩, ⟨[21, 22], some 23, [], []⟩, ⟨[23], some 24, [], []⟩, ⟨[20, 24], some 25, [], []⟩, ⟨[25], some 26, [], []⟩] (by kernel_rfl) (fun k10 => ?_) ?_
        · skip
          refine .move (.no rfl) rfl rfl rfl rfl ?_
          refine .move (.no rfl) rfl rfl rfl rfl ?_
          refine .indexAddr (.no rfl) rfl (j) t38 rfl t98 rfl rfl rfl (.d _ _) rfl rfl rfl (map_get (by omega)) rfl rfl ?_
          refine .load (.no rfl) rfl t98 rfl rfl (.d _) rfl rfl rfl rfl ?_
          refine .move (.no rfl) rfl rfl rfl rfl ?_
          refine .move (.no rfl) rfl rfl rfl rfl ?_
          refine .indexAddr (.no rfl) rfl (j) t38 rfl t98 rfl rfl rfl (.d _ _) rfl rfl rfl (map_get (by omega)) rfl rfl ?_
          refine .load (.no rfl) rfl t98 rfl rfl (.d _) rfl rfl rfl rfl ?_
          refine .call (.no rfl) rfl [] [] (c_eqArr (a.getD j default) (b.getD j default)) rfl rfl rfl rfl rfl (.cons (Reads.d _).gives (.cons (Reads.d _).gives (.cons (Reads.d _).gives (.cons (Reads.d _).gives .nil)))) rfl rfl (fun h => absurd rfl h) (.own [25, 0] .nil) (.nil) rfl rfl rfl (by simp) rfl rfl rfl ?_
          refine .un (.no rfl) rfl rfl rfl rfl rfl ?_
          exact .fin () (.of (.cons rfl (.cons rfl (.cons rfl (.cons rfl .nil)))) .nil)
        intro _
        refine .cond (t := !(Arr.same (a.getD j default) (b.getD j default))) rfl (fun c2 => ?_) (fun c2 => ?_)
        · have c2 := c2
          try simp only [Bool.or_eq_true, Bool.or_eq_false_iff, Bool.and_eq_true, Bool.and_eq_false_iff, decide_eq_true_eq, decide_eq_false_iff_not, Bool.not_eq_true', Bool.not_eq_false', bne_iff_ne, beq_iff_eq, bne_eq_false_iff_eq, beq_eq_false_iff_ne, ne_eq, Bool.not_eq_eq_eq_not, Bool.not_true, Bool.not_false] at c2
          refine .seq ?_
          refine .reg (X := Unit) (fun ζ => .of [(4, .one (.d (.v (.bool (false)))))] []) [⟨[], some 4, [], []⟩] (fun k11 => ?_) ?_
          · skip
            refine .assign (.no rfl) rfl rfl rfl rfl ?_
            exact .fin () (.of (.cons rfl .nil) .nil)
          intro _
          refine .ret ?_
          have e12 : (false) = (all2 Arr.same a b) := by exact (all2_fail _ (j := j) (by omega) (by simpa [] using c2)).symm
          have hc13 := eq1 (fun z1 => SV.one (.d (.v (.bool (z1))))) e12
          show _ ∧ _
          exact ⟨.inr rfl, .done ⟨_, [], [], _, .one (c := .d (.v (.bool (all2 Arr.same a b)))) (hc13) .nil, .cons (Reads.d _).gives .nil, nodupB_ok rfl, by simp, (by simp)⟩⟩
        · have c2 := c2
          try simp only [Bool.or_eq_true, Bool.or_eq_false_iff, Bool.and_eq_true, Bool.and_eq_false_iff, decide_eq_true_eq, decide_eq_false_iff_not, Bool.not_eq_true', Bool.not_eq_false', bne_iff_ne, beq_iff_eq, bne_eq_false_iff_eq, beq_eq_false_iff_ne, ne_eq, Bool.not_eq_eq_eq_not, Bool.not_true, Bool.not_false] at c2
          refine .skip ?_
          refine .reg (X := Unit) (fun ζ => .of [(0, .one (.d (.sl false 98 2 (List.map Arr.c (a))))), (1, .one (.d (.sl false 98 2 (List.map Arr.c (b))))), (5, .one (.d (.v (.int .i64 (IntKind.wrap .i64 ((j : Int) + 1))))))] []) [⟨[5], some 15, [], []⟩, ⟨[15], some 16, [], []⟩, ⟨[16], some 5, [], []⟩] (fun k14 => ?_) ?_
          · skip
            refine .move (.no rfl) rfl rfl rfl rfl ?_
            refine .bin (.no rfl) rfl rfl rfl rfl rfl rfl ?_
            refine .assign (.no rfl) rfl rfl rfl rfl ?_
            exact .fin () (.of (.cons rfl (.cons rfl (.cons rfl .nil))) .nil)
          intro _
          exact .here (j + 1) (.of (.cons rfl (.cons rfl (.cons (svI (show (IntKind.wrap .i64 ((j : Int) + 1)) = (((j + 1) : Int)) by first | rfl | omega | exact wrap_le (by omega) (by omega) | (rw [wrap_le (by omega) (by omega)]; omega))) .nil))) .nil) ⟨(show (j + 1) ≤ a.length ∧ a.length = b.length ∧ allTo (j + 1) (fun i => Arr.same (a.getD i default) (b.getD i default)) = true by exact ⟨by omega, by omega, allTo_step hI.2.2 (by simpa [] using c2)⟩), (show a.length - (j + 1) < a.length - j by omega)⟩
      · have c1 := of_decide_eq_false c1
        refine .exit ?_
        refine .seq ?_
        refine .reg (X := Unit) (fun ζ => .of [(4, .one (.d (.v (.bool (true)))))] []) [⟨[], some 4, [], []⟩] (fun k15 => ?_) ?_
        · skip
          refine .assign (.no rfl) rfl rfl rfl rfl ?_
          exact .fin () (.of (.cons rfl .nil) .nil)
        intro _
        refine .ret ?_
        have e16 : (true) = (all2 Arr.same a b) := by (have hj : j = a.length := (by omega); subst hj; exact (all2_done _ hI.2.1 hI.2.2).symm)
        have hc17 := eq1 (fun z1 => SV.one (.d (.v (.bool (z1))))) e16
        show _ ∧ _
        exact ⟨.inr rfl, .done ⟨_, [], [], _, .one (c := .d (.v (.bool (all2 Arr.same a b)))) (hc17) .nil, .cons (Reads.d _).gives .nil, nodupB_ok rfl, by simp, (by simp)⟩⟩
theorem c_eqEnv (a : Env) (b : Env) : Trip Tryd.prog 14 [(true, 3), (true, 3)] (Env.c44 a ++ Env.c44 b) [(false, 1)] [.v (.bool (Env.same a b))] [] := by
  refine Trip.of Tryd.func14 (by decide) (c := _) rfl rfl (shB_ok rfl) (Nat.le_of_ble_eq_true rfl) rfl (AftOk.nil _) ?_
  refine .satA (t := 0) (i := 1) rfl rfl (fun hs1 => ?_)
  have hs1l : a.ints.length ≤ 9223372036854775807 := hs1.maplen
  refine .satA (t := 0) (i := 2) rfl rfl (fun hs2 => ?_)
  have hs2l : a.arrs.length ≤ 9223372036854775807 := hs2.maplen
  refine .satA (t := 1) (i := 1) rfl rfl (fun hs3 => ?_)
  have hs3l : b.ints.length ≤ 9223372036854775807 := hs3.maplen
  refine .satA (t := 1) (i := 2) rfl rfl (fun hs4 => ?_)
  have hs4l : b.arrs.length ≤ 9223372036854775807 := hs4.maplen
  refine .seq ?_
  refine .reg (X := Nat × Nat) (fun ζ => .of [(2, .one (.ptr [2] (ζ.1) 0)), (3, .one (.ptr [3] (ζ.2) 0))] [([2], (ζ.1, ζ.1, .box [.d (.v (.bool (a.live))), .d (.sl false 97 2 (List.map Iv.c (a.ints))), .d (.sl false 97 2 (List.map Iv.c (a.arrs)))])), ([3], (ζ.2, ζ.2, .box [.d (.v (.bool (b.live))), .d (.sl false 97 2 (List.map Iv.c (b.ints))), .d (.sl false 97 2 (List.map Iv.c (b.arrs)))]))]) [⟨[0], some 2, [], [[2]]⟩, ⟨[1], some 3, [], [[3]]⟩, ⟨[], some 4, [], []⟩] (fun k5 => ?_) ?_
  · skip
    refine .box (.no rfl) rfl rfl rfl rfl rfl ?_
    refine .box (.no rfl) rfl rfl rfl rfl rfl ?_
    refine .assign (.no rfl) rfl rfl rfl rfl ?_
    exact .fin (k5, k5 + 1) (.of (.cons rfl (.cons rfl .nil)) (.cons rfl (.cons rfl .nil)))
  rintro ⟨g6, g7⟩
  refine .seq ?_
  refine .seq ?_
  refine .reg (X := Unit) (fun ζ => .of [(2, .one (.ptr [2] (g6) 0)), (3, .one (.ptr [3] (g7) 0)), (9, .one (.d (.v (.bool (a.live != b.live)))))] [([2], (g6, g6, .box [.d (.v (.bool (a.live))), .d (.sl false 97 2 (List.map Iv.c (a.ints))), .d (.sl false 97 2 (List.map Iv.c (a.arrs)))])), ([3], (g7, g7, .box [.d (.v (.bool (b.live))), .d (.sl false 97 2 (List.map Iv.c (b.ints))), .d (.sl false 97 2 (List.map Iv.c (b.arrs)))]))]) [⟨[2], some 5, [], []⟩, ⟨[5], some 6, [[2]], []⟩, ⟨[3], some 7, [], []⟩, ⟨[7], some 8, [[3]], []⟩, ⟨[6, 8], some 9, [], []⟩] (fun k8 => ?_) ?_
  · skip
    refine .fieldAddrP (.no rfl) rfl t44 rfl rfl t4 rfl rfl rfl rfl ?_
    refine .load (.no rfl) rfl t4 rfl rfl (.ptr _ _ _ _ _ rfl) rfl rfl rfl rfl ?_
    refine .fieldAddrP (.no rfl) rfl t44 rfl rfl t4 rfl rfl rfl rfl ?_
    refine .load (.no rfl) rfl t4 rfl rfl (.ptr _ _ _ _ _ rfl) rfl rfl rfl rfl ?_
    refine .neB (.no rfl) rfl t4 rfl rfl rfl rfl rfl ?_
    exact .fin () (.of (.cons rfl (.cons rfl (.cons rfl .nil))) (.cons rfl (.cons rfl .nil)))
  intro _
  refine .cond (t := a.live != b.live) rfl (fun c0 => ?_) (fun c0 => ?_)
  · have c0 := (by simpa using c0 : ¬ (a.live = b.live))
    refine .seq ?_
    refine .reg (X := Unit) (fun ζ => .of [(4, .one (.d (.v (.bool (false)))))] []) [⟨[], some 4, [], []⟩] (fun k9 => ?_) ?_
    · skip
      refine .assign (.no rfl) rfl rfl rfl rfl ?_
      exact .fin () (.of (.cons rfl .nil) .nil)
    intro _
    refine .ret ?_
    have e10 : (false) = (Env.same a b) := by (simp_all [Env.same])
    have hc11 := eq1 (fun z1 => SV.one (.d (.v (.bool (z1))))) e10
    show _ ∧ _
    exact ⟨.inr rfl, .done ⟨_, [], [], _, .one (c := .d (.v (.bool (Env.same a b)))) (hc11) .nil, .cons (Reads.d _).gives .nil, nodupB_ok rfl, by simp, (by simp)⟩⟩
  · have c0 := (by simpa using c0 : a.live = b.live)
    refine .skip ?_
    refine .seq ?_
    refine .seq ?_
    refine .reg (X := Unit) (fun ζ => .of [(2, .one (.ptr [2] (g6) 0)), (3, .one (.ptr [3] (g7) 0)), (15, .one (.d (.v (.bool (!(all2 Iv.same a.ints b.ints))))))] [([2], (g6, g6, .box [.d (.v (.bool (a.live))), .d (.sl false 97 2 (List.map Iv.c (a.ints))), .d (.sl false 97 2 (List.map Iv.c (a.arrs)))])), ([3], (g7, g7, .box [.d (.v (.bool (b.live))), .d (.sl false 97 2 (List.map Iv.c (b.ints))), .d (.sl false 97 2 (List.map Iv.c (b.arrs)))]))]) [⟨[2], some 10, [], []⟩, ⟨[10], some 11, [[2]], []⟩, ⟨[3], some 12, [], []⟩, ⟨[12], some 13, [[3]], []⟩, ⟨[11, 13], some 14, [], []⟩, ⟨[14], some 15, [], []⟩] (fun k12 => ?_) ?_
    · skip
      refine .fieldAddrP (.no rfl) rfl t44 rfl rfl t42 rfl rfl rfl rfl ?_
      refine .load (.no rfl) rfl t42 rfl rfl (.ptr _ _ _ _ _ rfl) rfl rfl rfl rfl ?_
      refine .fieldAddrP (.no rfl) rfl t44 rfl rfl t42 rfl rfl rfl rfl ?_
      refine .load (.no rfl) rfl t42 rfl rfl (.ptr _ _ _ _ _ rfl) rfl rfl rfl rfl ?_
      refine .call (.no rfl) rfl [] [] (c_eqIntervalS a.ints b.ints) rfl rfl rfl rfl rfl (.cons (Reads.d _).gives (.cons (Reads.d _).gives .nil)) rfl rfl (fun h => absurd rfl h) (.own [14, 0] .nil) (.nil) rfl rfl rfl (by simp) rfl rfl rfl ?_
      refine .un (.no rfl) rfl rfl rfl rfl rfl ?_
      exact .fin () (.of (.cons rfl (.cons rfl (.cons rfl .nil))) (.cons rfl (.cons rfl .nil)))
    intro _
    refine .cond (t := !(all2 Iv.same a.ints b.ints)) rfl (fun c1 => ?_) (fun c1 => ?_)
    · have c1 := c1
      try simp only [Bool.or_eq_true, Bool.or_eq_false_iff, Bool.and_eq_true, Bool.and_eq_false_iff, decide_eq_true_eq, decide_eq_false_iff_not, Bool.not_eq_true', Bool.not_eq_false', bne_iff_ne, beq_iff_eq, bne_eq_false_iff_eq, beq_eq_false_iff_ne, ne_eq, Bool.not_eq_eq_eq_not, Bool.not_true, Bool.not_false] at c1
      refine .seq ?_
      refine .reg (X := Unit) (fun ζ => .of [(4, .one (.d (.v (.bool (false)))))] []) [⟨[], some 4, [], []⟩] (fun k13 => ?_) ?_
      · skip
        refine .assign (.no rfl) rfl rfl rfl rfl ?_
        exact .fin () (.of (.cons rfl .nil) .nil)
      intro _
      refine .ret ?_
      have e14 : (false) = (Env.same a b) := by (simp_all [Env.same])
      have hc15 := eq1 (fun z1 => SV.one (.d (.v (.bool (z1))))) e14
      show _ ∧ _
      exact ⟨.inr rfl, .done ⟨_, [], [], _, .one (c := .d (.v (.bool (Env.same a b)))) (hc15) .nil, .cons (Reads.d _).gives .nil, nodupB_ok rfl, by simp, (by simp)⟩⟩
    · have c1 := c1
      try simp only [Bool.or_eq_true, Bool.or_eq_false_iff, Bool.and_eq_true, Bool.and_eq_false_iff, decide_eq_true_eq, decide_eq_false_iff_not, Bool.not_eq_true', Bool.not_eq_false', bne_iff_ne, beq_iff_eq, bne_eq_false_iff_eq, beq_eq_false_iff_ne, ne_eq, Bool.not_eq_eq_eq_not, Bool.not_true, Bool.not_false] at c1
      refine .skip ?_
      refine .seq ?_
      refine .seq ?_
      refine .reg (X := Unit) (fun ζ => .of [(21, .one (.d (.v (.bool (!(all2 Iv.same a.arrs b.arrs))))))] []) [⟨[2], some 16, [], []⟩, ⟨[16], some 17, [[2]], []⟩, ⟨[3], some 18, [], []⟩, ⟨[18], some 19, [[3]], []⟩, ⟨[17, 19], some 20, [], []⟩, ⟨[20], some 21, [], []⟩] (fun k16 => ?_) ?_
      · skip
        refine .fieldAddrP (.no rfl) rfl t44 rfl rfl t42 rfl rfl rfl rfl ?_
        refine .load (.no rfl) rfl t42 rfl rfl (.ptr _ _ _ _ _ rfl) rfl rfl rfl rfl ?_
        refine .fieldAddrP (.no rfl) rfl t44 rfl rfl t42 rfl rfl rfl rfl ?_
        refine .load (.no rfl) rfl t42 rfl rfl (.ptr _ _ _ _ _ rfl) rfl rfl rfl rfl ?_
        refine .call (.no rfl) rfl [] [] (c_eqIntervalS a.arrs b.arrs) rfl rfl rfl rfl rfl (.cons (Reads.d _).gives (.cons (Reads.d _).gives .nil)) rfl rfl (fun h => absurd rfl h) (.own [20, 0] .nil) (.nil) rfl rfl rfl (by simp) rfl rfl rfl ?_
        refine .un (.no rfl) rfl rfl rfl rfl rfl ?_
        exact .fin () (.of (.cons rfl .nil) .nil)
      intro _
      refine .cond (t := !(all2 Iv.same a.arrs b.arrs)) rfl (fun c2 => ?_) (fun c2 => ?_)
      · have c2 := c2
        try simp only [Bool.or_eq_true, Bool.or_eq_false_iff, Bool.and_eq_true, Bool.and_eq_false_iff, decide_eq_true_eq, decide_eq_false_iff_not, Bool.not_eq_true', Bool.not_eq_false', bne_iff_ne, beq_iff_eq, bne_eq_false_iff_eq, beq_eq_false_iff_ne, ne_eq, Bool.not_eq_eq_eq_not, Bool.not_true, Bool.not_false] at c2
        refine .seq ?_
        refine .reg (X := Unit) (fun ζ => .of [(4, .one (.d (.v (.bool (false)))))] []) [⟨[], some 4, [], []⟩] (fun k17 => ?_) ?_
        · skip
          refine .assign (.no rfl) rfl rfl rfl rfl ?_
          exact .fin () (.of (.cons rfl .nil) .nil)
        intro _
        refine .ret ?_
        have e18 : (false) = (Env.same a b) := by (simp_all [Env.same])
        have hc19 := eq1 (fun z1 => SV.one (.d (.v (.bool (z1))))) e18
        show _ ∧ _
        exact ⟨.inr rfl, .done ⟨_, [], [], _, .one (c := .d (.v (.bool (Env.same a b)))) (hc19) .nil, .cons (Reads.d _).gives .nil, nodupB_ok rfl, by simp, (by simp)⟩⟩
      · have c2 := c2
        try simp only [Bool.or_eq_true, Bool.or_eq_false_iff, Bool.and_eq_true, Bool.and_eq_false_iff, decide_eq_true_eq, decide_eq_false_iff_not, Bool.not_eq_true', Bool.not_eq_false', bne_iff_ne, beq_iff_eq, bne_eq_false_iff_eq, beq_eq_false_iff_ne, ne_eq, Bool.not_eq_eq_eq_not, Bool.not_true, Bool.not_false] at c2
        refine .skip ?_
        refine .seq ?_
        refine .reg (X := Unit) (fun ζ => .of [(4, .one (.d (.v (.bool (true)))))] []) [⟨[], some 4, [], []⟩] (fun k20 => ?_) ?_
        · skip
          refine .assign (.no rfl) rfl rfl rfl rfl ?_
          exact .fin () (.of (.cons rfl .nil) .nil)
        intro _
        refine .ret ?_
        have e21 : (true) = (Env.same a b) := by (simp_all [Env.same])
        have hc22 := eq1 (fun z1 => SV.one (.d (.v (.bool (z1))))) e21
        show _ ∧ _
        exact ⟨.inr rfl, .done ⟨_, [], [], _, .one (c := .d (.v (.bool (Env.same a b)))) (hc22) .nil, .cons (Reads.d _).gives .nil, nodupB_ok rfl, by simp, (by simp)⟩⟩
theorem c_eqDecl (a : Decl) (b : Decl) : Trip Tryd.prog 13 [(true, 3), (true, 3)] (Decl.c40 a ++ Decl.c40 b) [(false, 1)] [.v (.bool (Decl.same a b))] [] := by
  refine Trip.of Tryd.func13 (by decide) (c := _) rfl rfl (shB_ok rfl) (Nat.le_of_ble_eq_true rfl) rfl (AftOk.nil _) ?_
  refine .satA (t := 0) (i := 0) rfl rfl (fun hs1 => ?_)
  have hs1l : a.vars.length ≤ 9223372036854775807 := hs1.maplen
  refine .satA (t := 0) (i := 1) rfl rfl (fun hs2 => ?_)
  have hs2l : a.flags.length ≤ 9223372036854775807 := hs2.maplen
  refine .satA (t := 0) (i := 2) rfl rfl (fun hs3 => ?_)
  have hs3l : a.arrays.length ≤ 9223372036854775807 := hs3.maplen
  refine .satA (t := 1) (i := 0) rfl rfl (fun hs4 => ?_)
  have hs4l : b.vars.length ≤ 9223372036854775807 := hs4.maplen
  refine .satA (t := 1) (i := 1) rfl rfl (fun hs5 => ?_)
  have hs5l : b.flags.length ≤ 9223372036854775807 := hs5.maplen
  refine .satA (t := 1) (i := 2) rfl rfl (fun hs6 => ?_)
  have hs6l : b.arrays.length ≤ 9223372036854775807 := hs6.maplen
  refine .seq ?_
  refine .reg (X := Nat × Nat) (fun ζ => .of [(2, .one (.ptr [2] (ζ.1) 0)), (3, .one (.ptr [3] (ζ.2) 0))] [([2], (ζ.1, ζ.1, .box [.d (.sl false 9 1 (List.map strc (a.vars))), .d (.sl false 9 1 (List.map strc (a.flags))), .d (.sl false 98 2 (List.map Arr.c (a.arrays)))])), ([3], (ζ.2, ζ.2, .box [.d (.sl false 9 1 (List.map strc (b.vars))), .d (.sl false 9 1 (List.map strc (b.flags))), .d (.sl false 98 2 (List.map Arr.c (b.arrays)))]))]) [⟨[0], some 2, [], [[2]]⟩, ⟨[1], some 3, [], [[3]]⟩, ⟨[], some 4, [], []⟩] (fun k7 => ?_) ?_
  · skip
    refine .box (.no rfl) rfl rfl rfl rfl rfl ?_
    refine .box (.no rfl) rfl rfl rfl rfl rfl ?_
    refine .assign (.no rfl) rfl rfl rfl rfl ?_
    exact .fin (k7, k7 + 1) (.of (.cons rfl (.cons rfl .nil)) (.cons rfl (.cons rfl .nil)))
  rintro ⟨g8, g9⟩
  refine .seq ?_
  refine .seq ?_
  refine .reg (X := Unit) (fun ζ => .of [(2, .one (.ptr [2] (g8) 0)), (3, .one (.ptr [3] (g9) 0)), (10, .one (.d (.v (.bool (!(all2 strEq a.vars b.vars))))))] [([2], (g8, g8, .box [.d (.sl false 9 1 (List.map strc (a.vars))), .d (.sl false 9 1 (List.map strc (a.flags))), .d (.sl false 98 2 (List.map Arr.c (a.arrays)))])), ([3], (g9, g9, .box [.d (.sl false 9 1 (List.map strc (b.vars))), .d (.sl false 9 1 (List.map strc (b.flags))), .d (.sl false 98 2 (List.map Arr.c (b.arrays)))]))]) [⟨[2], some 5, [], []⟩, ⟨[5], some 6, [[2]], []⟩, ⟨[3], some 7, [], []⟩, ⟨[7], some 8, [[3]], []⟩, ⟨[6, 8], some 9, [], []⟩, ⟨[9], some 10, [], []⟩] (fun k10 => ?_) ?_
  · skip
    refine .fieldAddrP (.no rfl) rfl t40 rfl rfl t22 rfl rfl rfl rfl ?_
    refine .load (.no rfl) rfl t22 rfl rfl (.ptr _ _ _ _ _ rfl) rfl rfl rfl rfl ?_
    refine .fieldAddrP (.no rfl) rfl t40 rfl rfl t22 rfl rfl rfl rfl ?_
    refine .load (.no rfl) rfl t22 rfl rfl (.ptr _ _ _ _ _ rfl) rfl rfl rfl rfl ?_
    refine .call (.no rfl) rfl [] [] (c_eqStringS a.vars b.vars) rfl rfl rfl rfl rfl (.cons (Reads.d _).gives (.cons (Reads.d _).gives .nil)) rfl rfl (fun h => absurd rfl h) (.own [9, 0] .nil) (.nil) rfl rfl rfl (by simp) rfl rfl rfl ?_
    refine .un (.no rfl) rfl rfl rfl rfl rfl ?_
    exact .fin () (.of (.cons rfl (.cons rfl (.cons rfl .nil))) (.cons rfl (.cons rfl .nil)))
  intro _
  refine .cond (t := !(all2 strEq a.vars b.vars)) rfl (fun c0 => ?_) (fun c0 => ?_)
  · have c0 := c0
    try simp only [Bool.or_eq_true, Bool.or_eq_false_iff, Bool.and_eq_true, Bool.and_eq_false_iff, decide_eq_true_eq, decide_eq_false_iff_not, Bool.not_eq_true', Bool.not_eq_false', bne_iff_ne, beq_iff_eq, bne_eq_false_iff_eq, beq_eq_false_iff_ne, ne_eq, Bool.not_eq_eq_eq_not, Bool.not_true, Bool.not_false] at c0
    refine .seq ?_
    refine .reg (X := Unit) (fun ζ => .of [(4, .one (.d (.v (.bool (false)))))] []) [⟨[], some 4, [], []⟩] (fun k11 => ?_) ?_
    · skip
      refine .assign (.no rfl) rfl rfl rfl rfl ?_
      exact .fin () (.of (.cons rfl .nil) .nil)
    intro _
    refine .ret ?_
    have e12 : (false) = (Decl.same a b) := by (simp_all [Decl.same])
    have hc13 := eq1 (fun z1 => SV.one (.d (.v (.bool (z1))))) e12
    show _ ∧ _
    exact ⟨.inr rfl, .done ⟨_, [], [], _, .one (c := .d (.v (.bool (Decl.same a b)))) (hc13) .nil, .cons (Reads.d _).gives .nil, nodupB_ok rfl, by simp, (by simp)⟩⟩
  · have c0 := c0
    try simp only [Bool.or_eq_true, Bool.or_eq_false_iff, Bool.and_eq_true, Bool.and_eq_false_iff, decide_eq_true_eq, decide_eq_false_iff_not, Bool.not_eq_true', Bool.not_eq_false', bne_iff_ne, beq_iff_eq, bne_eq_false_iff_eq, beq_eq_false_iff_ne, ne_eq, Bool.not_eq_eq_eq_not, Bool.not_true, Bool.not_false] at c0
    refine .skip ?_
    refine .seq ?_
    refine .seq ?_
    refine .reg (X := Unit) (fun ζ => .of [(2, .one (.ptr [2] (g8) 0)), (3, .one (.ptr [3] (g9) 0)), (16, .one (.d (.v (.bool (!(all2 strEq a.flags b.flags))))))] [([2], (g8, g8, .box [.d (.sl false 9 1 (List.map strc (a.vars))), .d (.sl false 9 1 (List.map strc (a.flags))), .d (.sl false 98 2 (List.map Arr.c (a.arrays)))])), ([3], (g9, g9, .box [.d (.sl false 9 1 (List.map strc (b.vars))), .d (.sl false 9 1 (List.map strc (b.flags))), .d (.sl false 98 2 (List.map Arr.c (b.arrays)))]))]) [⟨[2], some 11, [], []⟩, ⟨[11], some 12, [[2]], []⟩, ⟨[3], some 13, [], []⟩, ⟨[13], some 14, [[3]], []⟩, ⟨[12, 14], some 15, [], []⟩, ⟨[15], some 16, [], []⟩] (fun k14 => ?_) ?_
    · skip
      refine .fieldAddrP (.no rfl) rfl t40 rfl rfl t22 rfl rfl rfl rfl ?_
      refine .load (.no rfl) rfl t22 rfl rfl (.ptr _ _ _ _ _ rfl) rfl rfl rfl rfl ?_
      refine .fieldAddrP (.no rfl) rfl t40 rfl rfl t22 rfl rfl rfl rfl ?_
      refine .load (.no rfl) rfl t22 rfl rfl (.ptr _ _ _ _ _ rfl) rfl rfl rfl rfl ?_
      refine .call (.no rfl) rfl [] [] (c_eqStringS a.flags b.flags) rfl rfl rfl rfl rfl (.cons (Reads.d _).gives (.cons (Reads.d _).gives .nil)) rfl rfl (fun h => absurd rfl h) (.own [15, 0] .nil) (.nil) rfl rfl rfl (by simp) rfl rfl rfl ?_
      refine .un (.no rfl) rfl rfl rfl rfl rfl ?_
      exact .fin () (.of (.cons rfl (.cons rfl (.cons rfl .nil))) (.cons rfl (.cons rfl .nil)))
    intro _
    refine .cond (t := !(all2 strEq a.flags b.flags)) rfl (fun c1 => ?_) (fun c1 => ?_)
    · have c1 := c1
      try simp only [Bool.or_eq_true, Bool.or_eq_false_iff, Bool.and_eq_true, Bool.and_eq_false_iff, decide_eq_true_eq, decide_eq_false_iff_not, Bool.not_eq_true', Bool.not_eq_false', bne_iff_ne, beq_iff_eq, bne_eq_false_iff_eq, beq_eq_false_iff_ne, ne_eq, Bool.not_eq_eq_eq_not, Bool.not_true, Bool.not_false] at c1
      refine .seq ?_
      refine .reg (X := Unit) (fun ζ => .of [(4, .one (.d (.v (.bool (false)))))] []) [⟨[], some 4, [], []⟩] (fun k15 => ?_) ?_
      · skip
        refine .assign (.no rfl) rfl rfl rfl rfl ?_
        exact .fin () (.of (.cons rfl .nil) .nil)
      intro _
      refine .ret ?_
      have e16 : (false) = (Decl.same a b) := by (simp_all [Decl.same])
      have hc17 := eq1 (fun z1 => SV.one (.d (.v (.bool (z1))))) e16
      show _ ∧ _
      exact ⟨.inr rfl, .done ⟨_, [], [], _, .one (c := .d (.v (.bool (Decl.same a b)))) (hc17) .nil, .cons (Reads.d _).gives .nil, nodupB_ok rfl, by simp, (by simp)⟩⟩
    · have c1 := c1
      try simp only [Bool.or_eq_true, Bool.or_eq_false_iff, Bool.and_eq_true, Bool.and_eq_false_iff, decide_eq_true_eq, decide_eq_false_iff_not, Bool.not_eq_true', Bool.not_eq_false', bne_iff_ne, beq_iff_eq, bne_eq_false_iff_eq, beq_eq_false_iff_ne, ne_eq, Bool.not_eq_eq_eq_not, Bool.not_true, Bool.not_false] at c1
      refine .skip ?_
      refine .seq ?_
      refine .seq ?_
      refine .reg (X := Unit) (fun ζ => .of [(22, .one (.d (.v (.bool (!(all2 Arr.same a.arrays b.arrays))))))] []) [⟨[2], some 17, [], []⟩, ⟨[17], some 18, [[2]], []⟩, ⟨[3], some 19, [], []⟩, ⟨[19], some 20, [[3]], []⟩, ⟨[18, 20], some 21, [], []⟩, ⟨[21], some 22, [], []⟩] (fun k18 => ?_) ?_
      · skip
        refine .fieldAddrP (.no rfl) rfl t40 rfl rfl t38 rfl rfl rfl rfl ?_
        refine .load (.no rfl) rfl t38 rfl rfl (.ptr _ _ _ _ _ rfl) rfl rfl rfl rfl ?_
        refine .fieldAddrP (.no rfl) rfl t40 rfl rfl t38 rfl rfl rfl rfl ?_
        refine .load (.no rfl) rfl t38 rfl rfl (.ptr _ _ _ _ _ rfl) rfl rfl rfl rfl ?_
        refine .call (.no rfl) rfl [] [] (c_eqArrS a.arrays b.arrays) rfl rfl rfl rfl rfl (.cons (Reads.d _).gives (.cons (Reads.d _).gives .nil)) rfl rfl (fun h => absurd rfl h) (.own [21, 0] .nil) (.nil) rfl rfl rfl (by simp) rfl rfl rfl ?_
        refine .un (.no rfl) rfl rfl rfl rfl rfl ?_
        exact .fin () (.of (.cons rfl .nil) .nil)
      intro _
      refine .cond (t := !(all2 Arr.same a.arrays b.arrays)) rfl (fun c2 => ?_) (fun c2 => ?_)
      · have c2 := c2
        try simp only [Bool.or_eq_true, Bool.or_eq_false_iff, Bool.and_eq_true, Bool.and_eq_false_iff, decide_eq_true_eq, decide_eq_false_iff_not, Bool.not_eq_true', Bool.not_eq_false', bne_iff_ne, beq_iff_eq, bne_eq_false_iff_eq, beq_eq_false_iff_ne, ne_eq, Bool.not_eq_eq_eq_not, Bool.not_true, Bool.not_false] at c2
        refine .seq ?_
        refine .reg (X := Unit) (fun ζ => .of [(4, .one (.d (.v (.bool (false)))))] []) [⟨[], some 4, [], []⟩] (fun k19 => ?_) ?_
        · skip
          refine .assign (.no rfl) rfl rfl rfl rfl ?_
          exact .fin () (.of (.cons rfl .nil) .nil)
        intro _
        refine .ret ?_
        have e20 : (false) = (Decl.same a b) := by (simp_all [Decl.same])
        have hc21 := eq1 (fun z1 => SV.one (.d (.v (.bool (z1))))) e20
        show _ ∧ _
        exact ⟨.inr rfl, .done ⟨_, [], [], _, .one (c := .d (.v (.bool (Decl.same a b)))) (hc21) .nil, .cons (Reads.d _).gives .nil, nodupB_ok rfl, by simp, (by simp)⟩⟩
      · have c2 := c2
        try simp only [Bool.or_eq_true, Bool.or_eq_false_iff, Bool.and_eq_true, Bool.and_eq_false_iff, decide_eq_true_eq, decide_eq_false_iff_not, Bool.not_eq_true', Bool.not_eq_false', bne_iff_ne, beq_iff_eq, bne_eq_false_iff_eq, beq_eq_false_iff_ne, ne_eq, Bool.not_eq_eq_eq_not, Bool.not_true, Bool.not_false] at c2
        refine .skip ?_
        refine .seq ?_
        refine .reg (X := Unit) (fun ζ => .of [(4, .one (.d (.v (.bool (true)))))] []) [⟨[], some 4, [], []⟩] (fun k22 => ?_) ?_
        · skip
          refine .assign (.no rfl) rfl rfl rfl rfl ?_
          exact .fin () (.of (.cons rfl .nil) .nil)
        intro _
        refine .ret ?_
        have e23 : (true) = (Decl.same a b) := by (simp_all [Decl.same])
        have hc24 := eq1 (fun z1 => SV.one (.d (.v (.bool (z1))))) e23
        show _ ∧ _
        exact ⟨.inr rfl, .done ⟨_, [], [], _, .one (c := .d (.v (.bool (Decl.same a b)))) (hc24) .nil, .cons (Reads.d _).gives .nil, nodupB_ok rfl, by simp, (by simp)⟩⟩
end Go.Proofs

namespace Go.Proofs
open Go Go.Proofs Go.Ev

def u8c (x : Int) : List D := [.v (.int .u8 x)]
theorem u8c_e (x : Int) : (u8c x).map D.erase = u8c x := by simp [u8c, D.erase_v]
theorem u8c_o (x : Int) : ∀ d ∈ u8c x, Owned d := by simp [u8c, Owned.v]
def i3 : TI := ⟨.int .i64, 1, 8, [.int .i64 0]⟩
theorem t3 : TyOk Tryd.prog 3 i3 := ⟨Tryd.underlying3, by kernel_rfl⟩
theorem z3 : ZOk Tryd.prog 3 i3 := ⟨t3, rfl⟩
def i5 : TI := ⟨.int .u8, 1, 1, [.int .u8 0]⟩
theorem t5 : TyOk Tryd.prog 5 i5 := ⟨Tryd.underlying5, by kernel_rfl⟩
theorem z5 : ZOk Tryd.prog 5 i5 := ⟨t5, rfl⟩
def i131 : TI := ⟨.sl 5, 1, 24, [.slice none 0 0]⟩
theorem t131 : TyOk Tryd.prog 131 i131 := ⟨Tryd.underlying131, by kernel_rfl⟩
theorem z131 : ZOk Tryd.prog 131 i131 := ⟨t131, rfl⟩
theorem c_markText (k : Int) (hk : k < 4611686018427387904) : Trip Tryd.prog 77 [(false, 1)] ([.v (.int .i64 (k))]) [(false, 1)] [.v (.string (mText k))] [] := by
  refine Trip.of Tryd.func77 (by decide) (c := _) rfl rfl (shB_ok rfl) (Nat.le_of_ble_eq_true rfl) rfl (AftOk.nil _) ?_
  refine .seq ?_
  refine .reg (X := Unit) (fun ζ => .of [(0, .one (.d (.v (.int .i64 (k)))))] []) [⟨[], some 2, [], []⟩] (fun k1 => ?_) ?_
  · skip
    refine .assign (.no rfl) rfl rfl rfl rfl ?_
    exact .fin () (.of (.cons rfl .nil) .nil)
  intro _
  refine .seq ?_
  refine .seq ?_
  refine .reg (X := Unit) (fun ζ => .of [(0, .one (.d (.v (.int .i64 (k))))), (5, .one (.d (.v (.bool (decide (k ≤ 0))))))] []) [⟨[0], some 4, [], []⟩, ⟨[4], some 5, [], []⟩] (fun k2 => ?_) ?_
  · skip
    refine .move (.no rfl) rfl rfl rfl rfl ?_
    refine .bin (.no rfl) rfl rfl rfl rfl rfl rfl ?_
    exact .fin () (.of (.cons rfl (.cons rfl .nil)) .nil)
  intro _
  refine .cond (t := decide (k ≤ 0)) rfl (fun c0 => ?_) (fun c0 => ?_)
  · have c0 := of_decide_eq_true c0
    refine .seq ?_
    refine .reg (X := Unit) (fun ζ => .of [(2, .one (.d (.v (.string ((⟨#[109, 48]⟩ : ByteArray))))))] []) [⟨[], some 2, [], []⟩] (fun k3 => ?_) ?_
    · skip
      refine .assign (.no rfl) rfl rfl rfl rfl ?_
      exact .fin () (.of (.cons rfl .nil) .nil)
    intro _
    refine .ret ?_
    have e4 : ((⟨#[109, 48]⟩ : ByteArray)) = (mText k) := by (simp only [mText]; rw [if_pos c0])
    have hc5 := eq1 (fun z1 => SV.one (.d (.v (.string (z1))))) e4
    show _ ∧ _
    exact ⟨.inr rfl, .done ⟨_, [], [], _, .one (c := .d (.v (.string (mText k)))) (hc5) .nil, .cons (Reads.d _).gives .nil, nodupB_ok rfl, by simp, (by simp)⟩⟩
  · have c0 := of_decide_eq_false c0
    refine .skip ?_
    refine .seq ?_
    refine .reg (X := Unit) (fun ζ => .of [(0, .one (.d (.v (.int .i64 (k))))), (3, .one (.d (.v (.string ((⟨#[]⟩ : ByteArray))))))] []) [⟨[], some 3, [], []⟩] (fun k6 => ?_) ?_
    · skip
      refine .assign (.no rfl) rfl rfl rfl rfl ?_
      exact .fin () (.of (.cons rfl (.cons rfl .nil)) .nil)
    intro _
    refine .seq ?_
    refine .block ?_
    refine .loop (X := Int × ByteArray) (fun ζ => .of [(0, .one (.d (.v (.int .i64 (ζ.1))))), (3, .one (.d (.v (.string (ζ.2)))))] []) (fun ζ => 0 ≤ ζ.1 ∧ ζ.1 ≤ k ∧ txtGo ζ.1 ζ.2 = txtGo k (⟨#[]⟩ : ByteArray) ∧ (ζ.2.size : Int) + ζ.1 ≤ k) (fun ζ => ζ.1.toNat) ?_ ?_
    · skip
      exact .here (k, (⟨#[]⟩ : ByteArray)) (.of (.cons rfl (.cons rfl .nil)) .nil) (show 0 ≤ k ∧ k ≤ k ∧ txtGo k (⟨#[]⟩ : ByteArray) = txtGo k (⟨#[]⟩ : ByteArray) ∧ ((⟨#[]⟩ : ByteArray).size : Int) + k ≤ k by exact ⟨by omega, by omega, rfl, by show ((0 : Nat) : Int) + k ≤ k; omega⟩)
    · rintro ⟨v, u⟩ hI
      have hI : 0 ≤ v ∧ v ≤ k ∧ txtGo v u = txtGo k (⟨#[]⟩ : ByteArray) ∧ (u.size : Int) + v ≤ k := hI
      refine .seq ?_
      refine .seq ?_
      refine .reg (X := Unit) (fun ζ => .of [(0, .one (.d (.v (.int .i64 (v))))), (3, .one (.d (.v (.string (u))))), (7, .one (.d (.v (.bool (decide (v > 0))))))] []) [⟨[0], some 6, [], []⟩, ⟨[6], some 7, [], []⟩] (fun k7 => ?_) ?_
      · skip
        refine .move (.no rfl) rfl rfl rfl rfl ?_
        refine .bin (.no rfl) rfl rfl rfl rfl rfl rfl ?_
        exact .fin () (.of (.cons rfl (.cons rfl (.cons rfl .nil))) .nil)
      intro _
      refine .cond (t := decide (v > 0)) rfl (fun c1 => ?_) (fun c1 => ?_)
      · have c1 := of_decide_eq_true c1
        refine .skip ?_
        refine .block ?_
        refine .seq ?_
        refine .reg (X := Unit) (fun ζ => .of [(0, .one (.d (.v (.int .i64 (v))))), (3, .one (.d (.v (.string ((bytesOf [IntKind.wrap .u8 (IntKind.wrap .i64 (48 + (Int.tmod v 10)))]) ++ u)))))] []) [⟨[0], some 8, [], []⟩, ⟨[8], some 9, [], []⟩, ⟨[9], some 10, [], []⟩, ⟨[10], some 11, [], []⟩, ⟨[11], some 12, [], [[12]]⟩, ⟨[12], some 13, [[12]], []⟩, ⟨[3], some 14, [], []⟩, ⟨[13, 14], some 15, [], []⟩, ⟨[15], some 3, [], []⟩] (fun k8 => ?_) ?_
        · skip
          refine .move (.no rfl) rfl rfl rfl rfl ?_
          refine .quoRem (.no rfl) rfl (.inr ⟨rfl, rfl⟩) rfl rfl rfl rfl rfl ?_
          refine .bin (.no rfl) rfl rfl rfl rfl rfl rfl ?_
          refine .conv (.no rfl) rfl t3 t5 rfl rfl rfl rfl rfl rfl ?_
          refine .buildSlice (.no rfl) rfl (els := [[.v (.int .u8 (IntKind.wrap .u8 (IntKind.wrap .i64 (48 + (Int.tmod v 10)))))]]) t131 rfl z5 rfl rfl rfl rfl rfl rfl rfl rfl (by simp [i5]) (.cons _ _ _ _ _ _ (.d _) .nil) rfl rfl rfl ?_
          refine .bytesStr (.no rfl) rfl (ns := [IntKind.wrap .u8 (IntKind.wrap .i64 (48 + (Int.tmod v 10)))]) t131 rfl t5 rfl t9 rfl rfl rfl (.ref _ _ _ _ _ rfl) rfl rfl ?_
          refine .move (.no rfl) rfl rfl rfl rfl ?_
          refine .addStr (.no rfl) rfl rfl rfl rfl (by (first | (rw [bytesOf1_size]; omega) | (have : (⟨#[109]⟩ : ByteArray).size = 1 := rfl; omega))) rfl ?_
          refine .assign (.no rfl) rfl rfl rfl rfl ?_
          exact .fin () (.of (.cons rfl (.cons rfl .nil)) .nil)
        intro _
        refine .reg (X := Unit) (fun ζ => .of [(0, .one (.d (.v (.int .i64 (IntKind.wrap .i64 (Int.tdiv v 10)))))), (3, .one (.d (.v (.string ((bytesOf [IntKind.wrap .u8 (IntKind.wrap .i64 (48 + (Int.tmod v 10)))]) ++ u)))))] []) [⟨[0], some 16, [], []⟩, ⟨[16], some 17, [], []⟩, ⟨[17], some 0, [], []⟩] (fun k9 => ?_) ?_
        · skip
          refine .move (.no rfl) rfl rfl rfl rfl ?_
          refine .quoRem (.no rfl) rfl (.inl ⟨rfl, rfl⟩) rfl rfl rfl rfl rfl ?_
          refine .assign (.no rfl) rfl rfl rfl rfl ?_
          exact .fin () (.of (.cons rfl (.cons rfl .nil)) .nil)
        intro _
        exact .here ((Int.tdiv v 10), (bytesOf [digit v] ++ u)) (.of (.cons (svI (show (IntKind.wrap .i64 (Int.tdiv v 10)) = ((Int.tdiv v 10)) by first | rfl | exact wrap_le (by have := tdiv_lt c1; omega) (by have := tdiv_lt c1; omega))) (.cons (svS (show ((bytesOf [IntKind.wrap .u8 (IntKind.wrap .i64 (48 + (Int.tmod v 10)))]) ++ u) = ((bytesOf [digit v] ++ u)) by first | rfl | exact wrap_le (by have := tdiv_lt c1; omega) (by have := tdiv_lt c1; omega))) .nil)) .nil) ⟨(show 0 ≤ (Int.tdiv v 10) ∧ (Int.tdiv v 10) ≤ k ∧ txtGo (Int.tdiv v 10) (bytesOf [digit v] ++ u) = txtGo k (⟨#[]⟩ : ByteArray) ∧ ((bytesOf [digit v] ++ u).size : Int) + (Int.tdiv v 10) ≤ k by (have h9 := tdiv_lt c1; exact ⟨h9.1, by omega, (txtGo_step c1).trans hI.2.2.1, by rw [ByteArray.size_append, bytesOf1_size]; omega⟩)), (show (Int.tdiv v 10).toNat < v.toNat by (have h9 := tdiv_lt c1; omega))⟩
      · have c1 := of_decide_eq_false c1
        refine .exit ?_
        refine .seq ?_
        refine .reg (X := Unit) (fun ζ => .of [(2, .one (.d (.v (.string ((⟨#[109]⟩ : ByteArray) ++ u)))))] []) [⟨[3], some 18, [], []⟩, ⟨[18], some 19, [], []⟩, ⟨[19], some 2, [], []⟩] (fun k10 => ?_) ?_
        · skip
          refine .move (.no rfl) rfl rfl rfl rfl ?_
          refine .addStr (.no rfl) rfl rfl rfl rfl (by (first | (rw [bytesOf1_size]; omega) | (have : (⟨#[109]⟩ : ByteArray).size = 1 := rfl; omega))) rfl ?_
          refine .assign (.no rfl) rfl rfl rfl rfl ?_
          exact .fin () (.of (.cons rfl .nil) .nil)
        intro _
        refine .ret ?_
        have e11 : ((⟨#[109]⟩ : ByteArray) ++ u) = (mText k) := by (simp only [mText]; rw [if_neg c0, ← hI.2.2.1, txtGo_end c1])
        have hc12 := eq1 (fun z1 => SV.one (.d (.v (.string (z1))))) e11
        show _ ∧ _
        exact ⟨.inr rfl, .done ⟨_, [], [], _, .one (c := .d (.v (.string (mText k)))) (hc12) .nil, .cons (Reads.d _).gives .nil, nodupB_ok rfl, by simp, (by simp)⟩⟩
theorem c_markStringS (a : List ByteArray) (k : Int) (hk : 0 ≤ k ∧ k + 2 * (a.length : Int) < 4611686018427387904) : Trip Tryd.prog 53 [(false, 1), (false, 1)] ([.sl true 9 1 (List.map strc (a))] ++ [.v (.int .i64 (k))]) [(false, 1)] [.v (.int .i64 (k + (a.length : Int)))] [(0, .sl true 9 1 (List.map strc (mkAll (mStr k) a)))] := by
  refine Trip.of Tryd.func53 (by decide) (c := _) rfl rfl (shB_ok rfl) (Nat.le_of_ble_eq_true rfl) rfl (AftOk.sl rfl (AftOk.nil _)) ?_
  refine .seq ?_
  refine .reg (X := Unit) (fun ζ => .of [(0, .one (.ref [0, 0, 0] (0))), (1, .one (.d (.v (.int .i64 (k)))))] [([0, 0, 0], (0, 0, .row 9 1 (List.map strc (a))))]) [⟨[], some 4, [], []⟩] (fun k1 => ?_) ?_
  · skip
    refine .assign (.no rfl) rfl rfl rfl rfl ?_
    exact .fin () (.of (.cons rfl (.cons rfl .nil)) (.cons rfl .nil))
  intro _
  refine .seq ?_
  refine .seq ?_
  refine .reg (X := Unit) (fun ζ => .of [(0, .one (.ref [0, 0, 0] (0))), (1, .one (.d (.v (.int .i64 (k))))), (5, .one (.d (.v (.int .i64 (0)))))] [([0, 0, 0], (0, 0, .row 9 1 (List.map strc (a))))]) [⟨[], some 5, [], []⟩] (fun k2 => ?_) ?_
  · skip
    refine .assign (.no rfl) rfl rfl rfl rfl ?_
    exact .fin () (.of (.cons rfl (.cons rfl (.cons rfl .nil))) (.cons rfl .nil))
  intro _
  refine .block ?_
  refine .loop (X := Nat × Nat) (fun ζ => .of [(0, .one (.ref [0, 0, 0] (0))), (1, .one (.d (.v (.int .i64 (k + (ζ.1 : Int)))))), (5, .one (.d (.v (.int .i64 ((ζ.1 : Int))))))] [([0, 0, 0], (0, ζ.2, .row 9 1 (List.map strc (mkTo (mStr k) a ζ.1))))]) (fun ζ => ζ.1 ≤ a.length) (fun ζ => a.length - ζ.1) ?_ ?_
  · skip
    exact .here (0, 0) (.of (.cons rfl (.cons (svI (show (k) = (k + (0 : Int)) by first | omega | exact wrap_le (by omega) (by omega) | (rw [wrap_le (by omega) (by omega)]; omega) | (rw [wrap_le (a := k + 2 * (j : Int) + 1) (by omega) (by omega), wrap_le (by omega) (by omega)]; omega))) (.cons (svI (show (0) = ((0 : Int)) by first | omega | exact wrap_le (by omega) (by omega) | (rw [wrap_le (by omega) (by omega)]; omega) | (rw [wrap_le (a := k + 2 * (j : Int) + 1) (by omega) (by omega), wrap_le (by omega) (by omega)]; omega))) .nil))) (.cons (rowE (show List.map strc (a) = List.map strc (mkTo (mStr k) a 0) by first | (rw [← mkTo_zero]) | (rw [mkTo_step (x := mText (k + j)) (mStr k) a (by omega) rfl]))) .nil)) (show 0 ≤ a.length by omega)
  · rintro ⟨j, q3⟩ hI
    have hI : j ≤ a.length := hI
    have hL : (mkTo (mStr k) a j).length = a.length := mkTo_len _ _ _
    refine .seq ?_
    refine .seq ?_
    refine .reg (X := Unit) (fun ζ => .of [(0, .one (.ref [0, 0, 0] (0))), (1, .one (.d (.v (.int .i64 (k + (j : Int)))))), (5, .one (.d (.v (.int .i64 ((j : Int)))))), (9, .one (.d (.v (.bool (decide ((j : Int) < ((mkTo (mStr k) a j).length : Int)))))))] [([0, 0, 0], (0, q3, .row 9 1 (List.map strc (mkTo (mStr k) a j))))]) [⟨[5], some 6, [], []⟩, ⟨[0], some 7, [], []⟩, ⟨[7], some 8, [[0, 0, 0]], []⟩, ⟨[6, 8], some 9, [], []⟩] (fun k4 => ?_) ?_
    · skip
      refine .move (.no rfl) rfl rfl rfl rfl ?_
      refine .move (.no rfl) rfl rfl rfl rfl ?_
      refine .len (.no rfl) rfl (z := ((mkTo (mStr k) a j).length : Int)) t22 rfl rfl rfl (.ref _ _ _ _ _ rfl) (map_len _ _) rfl ?_
      refine .bin (.no rfl) rfl rfl rfl rfl rfl rfl ?_
      exact .fin () (.of (.cons rfl (.cons rfl (.cons rfl (.cons rfl .nil)))) (.cons rfl .nil))
    intro _
    refine .cond (t := decide ((j : Int) < ((mkTo (mStr k) a j).length : Int))) rfl (fun c0 => ?_) (fun c0 => ?_)
    · have c0 := of_decide_eq_true c0
      refine .skip ?_
      refine .seq ?_
      refine .block ?_
      refine .seq ?_
      refine .reg (X := Nat) (fun ζ => .of [(0, .one (.ref [0, 0, 0] (0))), (1, .one (.d (.v (.int .i64 (k + (j : Int)))))), (5, .one (.d (.v (.int .i64 ((j : Int))))))] [([0, 0, 0], (0, ζ, .row 9 1 (List.map strc ((mkTo (mStr k) a j).set j (mText (k + (j : Int)))))))]) [⟨[0], some 12, [], []⟩, ⟨[5], some 13, [], []⟩, ⟨[1], some 14, [], []⟩, ⟨[14], some 15, [], []⟩, ⟨[12, 13], some 16, [[0, 0, 0]], []⟩, ⟨[16, 15], none, [[0, 0, 0]], [[0, 0, 0]]⟩] (fun k5 => ?_) ?_
      · skip
        refine .move (.no rfl) rfl rfl rfl rfl ?_
        refine .move (.no rfl) rfl rfl rfl rfl ?_
        refine .move (.no rfl) rfl rfl rfl rfl ?_
        refine .call (.no rfl) rfl [] [] (c_markText (k + (j : Int)) (by omega)) rfl rfl rfl rfl rfl (.cons (Reads.d _).gives .nil) rfl rfl (fun h => absurd rfl h) (.own [15, 0] .nil) (.nil) rfl rfl rfl (by simp) rfl rfl rfl ?_
        refine .indexAddr (.no rfl) rfl (j) t22 rfl t9 rfl rfl rfl (.ref _ _ _ _ _ rfl) rfl rfl rfl (map_get (by first | omega | (rw [List.length_set]; omega))) rfl rfl ?_
        refine .storeE (.no rfl) rfl (els' := List.map strc ((mkTo (mStr k) a j).set j (mText (k + (j : Int))))) t9 rfl rfl rfl rfl (map_get (by first | omega | (rw [List.length_set]; omega))) rfl rfl (.cons _ _ _ _ _ _ (.d _) .nil) rfl (Nat.le_of_ble_eq_true rfl) (set_map _ _ _ (mText (k + (j : Int))) _ rfl) rfl rfl ?_
        exact .fin (k5 + 1 + 1 + 1 + 1 + 1) (.of (.cons rfl (.cons rfl (.cons rfl .nil))) (.cons rfl .nil))
      intro g6
      refine .reg (X := Unit) (fun ζ => .of [(0, .one (.ref [0, 0, 0] (0))), (1, .one (.d (.v (.int .i64 (IntKind.wrap .i64 ((k + (j : Int)) + 1)))))), (5, .one (.d (.v (.int .i64 ((j : Int))))))] [([0, 0, 0], (0, g6, .row 9 1 (List.map strc ((mkTo (mStr k) a j).set j (mText (k + (j : Int)))))))]) [⟨[1], some 17, [], []⟩, ⟨[17], some 18, [], []⟩, ⟨[18], some 1, [], []⟩] (fun k7 => ?_) ?_
      · skip
        refine .move (.no rfl) rfl rfl rfl rfl ?_
        refine .bin (.no rfl) rfl rfl rfl rfl rfl rfl ?_
        refine .assign (.no rfl) rfl rfl rfl rfl ?_
        exact .fin () (.of (.cons rfl (.cons rfl (.cons rfl .nil))) (.cons rfl .nil))
      intro _
      refine .reg (X := Unit) (fun ζ => .of [(0, .one (.ref [0, 0, 0] (0))), (1, .one (.d (.v (.int .i64 (IntKind.wrap .i64 ((k + (j : Int)) + 1)))))), (5, .one (.d (.v (.int .i64 (IntKind.wrap .i64 ((j : Int) + 1))))))] [([0, 0, 0], (0, g6, .row 9 1 (List.map strc ((mkTo (mStr k) a j).set j (mText (k + (j : Int)))))))]) [⟨[5], some 10, [], []⟩, ⟨[10], some 11, [], []⟩, ⟨[11], some 5, [], []⟩] (fun k8 => ?_) ?_
      · skip
        refine .move (.no rfl) rfl rfl rfl rfl ?_
        refine .bin (.no rfl) rfl rfl rfl rfl rfl rfl ?_
        refine .assign (.no rfl) rfl rfl rfl rfl ?_
        exact .fin () (.of (.cons rfl (.cons rfl (.cons rfl .nil))) (.cons rfl .nil))
      intro _
      exact .here ((j + 1), g6) (.of (.cons rfl (.cons (svI (show (IntKind.wrap .i64 ((k + (j : Int)) + 1)) = (k + ((j + 1) : Int)) by first | omega | exact wrap_le (by omega) (by omega) | (rw [wrap_le (by omega) (by omega)]; omega) | (rw [wrap_le (a := k + 2 * (j : Int) + 1) (by omega) (by omega), wrap_le (by omega) (by omega)]; omega))) (.cons (svI (show (IntKind.wrap .i64 ((j : Int) + 1)) = (((j + 1) : Int)) by first | omega | exact wrap_le (by omega) (by omega) | (rw [wrap_le (by omega) (by omega)]; omega) | (rw [wrap_le (a := k + 2 * (j : Int) + 1) (by omega) (by omega), wrap_le (by omega) (by omega)]; omega))) .nil))) (.cons (rowE (show List.map strc ((mkTo (mStr k) a j).set j (mText (k + (j : Int)))) = List.map strc (mkTo (mStr k) a (j + 1)) by first | (rw [← mkTo_zero]) | (rw [mkTo_step (x := mText (k + j)) (mStr k) a (by omega) rfl]))) .nil)) ⟨(show (j + 1) ≤ a.length by omega), (show a.length - (j + 1) < a.length - j by omega)⟩
    · have c0 := of_decide_eq_false c0
      refine .exit ?_
      refine .seq ?_
      refine .reg (X := Unit) (fun ζ => .of [(0, .one (.ref [0, 0, 0] (0))), (4, .one (.d (.v (.int .i64 (k + (j : Int))))))] [([0, 0, 0], (0, q3, .row 9 1 (List.map strc (mkTo (mStr k) a j))))]) [⟨[1], some 19, [], []⟩, ⟨[19], some 4, [], []⟩] (fun k9 => ?_) ?_
      · skip
        refine .move (.no rfl) rfl rfl rfl rfl ?_
        refine .assign (.no rfl) rfl rfl rfl rfl ?_
        exact .fin () (.of (.cons rfl (.cons rfl .nil)) (.cons rfl .nil))
      intro _
      refine .ret ?_
      have e10 : (k + (j : Int)) = (k + (a.length : Int)) := by first | omega | exact mkTo_all _ _ hI (by omega)
      have hc11 := eq1 (fun z1 => SV.one (.d (.v (.int .i64 (z1))))) e10
      have e12 : (mkTo (mStr k) a j) = (mkAll (mStr k) a) := by first | omega | exact mkTo_all _ _ hI (by omega)
      show _ ∧ _
      exact ⟨.inr rfl, .done ⟨_, [], [([0, 0, 0], (0, q3, .row 9 1 (List.map strc (mkAll (mStr k) a))))], _, .one (c := .d (.v (.int .i64 (k + (a.length : Int))))) (hc11) .nil, .cons (Reads.d _).gives (.cons (.ref (.head _)) .nil), nodupB_ok rfl, by simp, (AllH.get (.cons (rowE (congrArg (List.map strc) e12)) .nil))⟩⟩
theorem c_markArrS (a : List Arr) (k : Int) (hk : 0 ≤ k ∧ k + 2 * (a.length : Int) < 4611686018427387904) : Trip Tryd.prog 54 [(false, 1), (false, 1)] ([.sl true 98 2 (List.map Arr.c (a))] ++ [.v (.int .i64 (k))]) [(false, 1)] [.v (.int .i64 (k + 2 * (a.length : Int)))] [(0, .sl true 98 2 (List.map Arr.c (mkAll (mArr k) a)))] := by
  refine Trip.of Tryd.func54 (by decide) (c := _) rfl rfl (shB_ok rfl) (Nat.le_of_ble_eq_true rfl) rfl (AftOk.sl rfl (AftOk.nil _)) ?_
  refine .seq ?_
  refine .reg (X := Unit) (fun ζ => .of [(0, .one (.ref [0, 0, 0] (0))), (1, .one (.d (.v (.int .i64 (k)))))] [([0, 0, 0], (0, 0, .row 98 2 (List.map Arr.c (a))))]) [⟨[], some 4, [], []⟩] (fun k1 => ?_) ?_
  · skip
    refine .assign (.no rfl) rfl rfl rfl rfl ?_
    exact .fin () (.of (.cons rfl (.cons rfl .nil)) (.cons rfl .nil))
  intro _
  refine .seq ?_
  refine .seq ?_
  refine .reg (X := Unit) (fun ζ => .of [(0, .one (.ref [0, 0, 0] (0))), (1, .one (.d (.v (.int .i64 (k))))), (5, .one (.d (.v (.int .i64 (0)))))] [([0, 0, 0], (0, 0, .row 98 2 (List.map Arr.c (a))))]) [⟨[], some 5, [], []⟩] (fun k2 => ?_) ?_
  · skip
    refine .assign (.no rfl) rfl rfl rfl rfl ?_
    exact .fin () (.of (.cons rfl (.cons rfl (.cons rfl .nil))) (.cons rfl .nil))
  intro _
  refine .block ?_
  refine .loop (X := Nat × Nat) (fun ζ => .of [(0, .one (.ref [0, 0, 0] (0))), (1, .one (.d (.v (.int .i64 (k + 2 * (ζ.1 : Int)))))), (5, .one (.d (.v (.int .i64 ((ζ.1 : Int))))))] [([0, 0, 0], (0, ζ.2, .row 98 2 (List.map Arr.c (mkTo (mArr k) a ζ.1))))]) (fun ζ => ζ.1 ≤ a.length) (fun ζ => a.length - ζ.1) ?_ ?_
  · skip
    exact .here (0, 0) (.of (.cons rfl (.cons (svI (show (k) = (k + 2 * (0 : Int)) by first | omega | exact wrap_le (by omega) (by omega) | (rw [wrap_le (by omega) (by omega)]; omega) | (rw [wrap_le (a := k + 2 * (j : Int) + 1) (by omega) (by omega), wrap_le (by omega) (by omega)]; omega))) (.cons (svI (show (0) = ((0 : Int)) by first | omega | exact wrap_le (by omega) (by omega) | (rw [wrap_le (by omega) (by omega)]; omega) | (rw [wrap_le (a := k + 2 * (j : Int) + 1) (by omega) (by omega), wrap_le (by omega) (by omega)]; omega))) .nil))) (.cons (rowE (show List.map Arr.c (a) = List.map Arr.c (mkTo (mArr k) a 0) by first | (rw [← mkTo_zero]) | (rw [List.set_set, set_getD (by rw [mkTo_len]; omega), mkTo_step _ _ (by omega) (by simp only [mArr]; rw [wrap_le (a := k + 2 * (j : Int) + 1) (by omega) (by omega)])]))) .nil)) (show 0 ≤ a.length by omega)
  · rintro ⟨j, q3⟩ hI
    have hI : j ≤ a.length := hI
    have hL : (mkTo (mArr k) a j).length = a.length := mkTo_len _ _ _
    refine .seq ?_
    refine .seq ?_
    refine .reg (X := Unit) (fun ζ => .of [(0, .one (.ref [0, 0, 0] (0))), (1, .one (.d (.v (.int .i64 (k + 2 * (j : Int)))))), (5, .one (.d (.v (.int .i64 ((j : Int)))))), (9, .one (.d (.v (.bool (decide ((j : Int) < ((mkTo (mArr k) a j).length : Int)))))))] [([0, 0, 0], (0, q3, .row 98 2 (List.map Arr.c (mkTo (mArr k) a j))))]) [⟨[5], some 6, [], []⟩, ⟨[0], some 7, [], []⟩, ⟨[7], some 8, [[0, 0, 0]], []⟩, ⟨[6, 8], some 9, [], []⟩] (fun k4 => ?_) ?_
    · skip
      refine .move (.no rfl) rfl rfl rfl rfl ?_
      refine .move (.no rfl) rfl rfl rfl rfl ?_
      refine .len (.no rfl) rfl (z := ((mkTo (mArr k) a j).length : Int)) t38 rfl rfl rfl (.ref _ _ _ _ _ rfl) (map_len _ _) rfl ?_
      refine .bin (.no rfl) rfl rfl rfl rfl rfl rfl ?_
      exact .fin () (.of (.cons rfl (.cons rfl (.cons rfl (.cons rfl .nil)))) (.cons rfl .nil))
    intro _
    refine .cond (t := decide ((j : Int) < ((mkTo (mArr k) a j).length : Int))) rfl (fun c0 => ?_) (fun c0 => ?_)
    · have c0 := of_decide_eq_true c0
      refine .skip ?_
      refine .seq ?_
      refine .block ?_
      refine .seq ?_
      refine .reg (X := Nat) (fun ζ => .of [(0, .one (.ref [0, 0, 0] (0))), (1, .one (.d (.v (.int .i64 (k + 2 * (j : Int)))))), (5, .one (.d (.v (.int .i64 ((j : Int))))))] [([0, 0, 0], (0, ζ, .row 98 2 (List.map Arr.c ((mkTo (mArr k) a j).set j (Arr.mk (mText (k + 2 * (j : Int))) (((mkTo (mArr k) a j).getD (j) default).size))))))]) [⟨[0], some 12, [], []⟩, ⟨[5], some 13, [], []⟩, ⟨[1], some 14, [], []⟩, ⟨[14], some 15, [], []⟩, ⟨[12, 13], some 16, [[0, 0, 0]], []⟩, ⟨[16], some 17, [], []⟩, ⟨[17, 15], none, [[0, 0, 0]], [[0, 0, 0]]⟩] (fun k5 => ?_) ?_
      · skip
        refine .move (.no rfl) rfl rfl rfl rfl ?_
        refine .move (.no rfl) rfl rfl rfl rfl ?_
        refine .move (.no rfl) rfl rfl rfl rfl ?_
        refine .call (.no rfl) rfl [] [] (c_markText (k + 2 * (j : Int)) (by omega)) rfl rfl rfl rfl rfl (.cons (Reads.d _).gives .nil) rfl rfl (fun h => absurd rfl h) (.own [15, 0] .nil) (.nil) rfl rfl rfl (by simp) rfl rfl rfl ?_
        refine .indexAddr (.no rfl) rfl (j) t38 rfl t98 rfl rfl rfl (.ref _ _ _ _ _ rfl) rfl rfl rfl (map_get (by first | omega | (rw [List.length_set]; omega))) rfl rfl ?_
        refine .fieldAddr (.no rfl) rfl t98 rfl rfl t9 rfl rfl rfl rfl [] (by simp) (by intro _ _ _ h; cases h) rfl rfl ?_
        refine .storeE (.no rfl) rfl (els' := List.map Arr.c ((mkTo (mArr k) a j).set j (Arr.mk (mText (k + 2 * (j : Int))) (((mkTo (mArr k) a j).getD (j) default).size)))) t9 rfl rfl rfl rfl (map_get (by first | omega | (rw [List.length_set]; omega))) rfl rfl (.cons _ _ _ _ _ _ (.d _) .nil) rfl (Nat.le_of_ble_eq_true rfl) (set_map _ _ _ (Arr.mk (mText (k + 2 * (j : Int))) (((mkTo (mArr k) a j).getD (j) default).size)) _ rfl) rfl rfl ?_
        exact .fin (k5 + 1 + 1 + 1 + 1 + 1 + 1) (.of (.cons rfl (.cons rfl (.cons rfl .nil))) (.cons rfl .nil))
      intro g6
      refine .seq ?_
      refine .reg (X := Unit) (fun ζ => .of [(0, .one (.ref [0, 0, 0] (0))), (1, .one (.d (.v (.int .i64 (IntKind.wrap .i64 ((k + 2 * (j : Int)) + 1)))))), (5, .one (.d (.v (.int .i64 ((j : Int))))))] [([0, 0, 0], (0, g6, .row 98 2 (List.map Arr.c ((mkTo (mArr k) a j).set j (Arr.mk (mText (k + 2 * (j : Int))) (((mkTo (mArr k) a j).getD (j) default).size))))))]) [⟨[1], some 18, [], []⟩, ⟨[18], some 19, [], []⟩, ⟨[19], some 1, [], []⟩] (fun k7 => ?_) ?_
      · skip
        refine .move (.no rfl) rfl rfl rfl rfl ?_
        refine .bin (.no rfl) rfl rfl rfl rfl rfl rfl ?_
        refine .assign (.no rfl) rfl rfl rfl rfl ?_
        exact .fin () (.of (.cons rfl (.cons rfl (.cons rfl .nil))) (.cons rfl .nil))
      intro _
      refine .seq ?_
      refine .reg (X := Nat) (fun ζ => .of [(0, .one (.ref [0, 0, 0] (0))), (1, .one (.d (.v (.int .i64 (IntKind.wrap .i64 ((k + 2 * (j : Int)) + 1)))))), (5, .one (.d (.v (.int .i64 ((j : Int))))))] [([0, 0, 0], (0, ζ, .row 98 2 (List.map Arr.c (((mkTo (mArr k) a j).set j (Arr.mk (mText (k + 2 * (j : Int))) (((mkTo (mArr k) a j).getD (j) default).size))).set j (Arr.mk ((((mkTo (mArr k) a j).set j (Arr.mk (mText (k + 2 * (j : Int))) (((mkTo (mArr k) a j).getD (j) default).size))).getD (j) default).name) (IntKind.wrap .i64 ((k + 2 * (j : Int)) + 1)))))))]) [⟨[0], some 20, [], []⟩, ⟨[5], some 21, [], []⟩, ⟨[1], some 22, [], []⟩, ⟨[20, 21], some 23, [[0, 0, 0]], []⟩, ⟨[23], some 24, [], []⟩, ⟨[24, 22], none, [[0, 0, 0]], [[0, 0, 0]]⟩] (fun k8 => ?_) ?_
      · skip
        refine .move (.no rfl) rfl rfl rfl rfl ?_
        refine .move (.no rfl) rfl rfl rfl rfl ?_
        refine .move (.no rfl) rfl rfl rfl rfl ?_
        refine .indexAddr (.no rfl) rfl (j) t38 rfl t98 rfl rfl rfl (.ref _ _ _ _ _ rfl) rfl rfl rfl (map_get (by first | omega | (rw [List.length_set]; omega))) rfl rfl ?_
        refine .fieldAddr (.no rfl) rfl t98 rfl rfl t2 rfl rfl rfl rfl [] (by simp) (by intro _ _ _ h; cases h) rfl rfl ?_
        refine .storeE (.no rfl) rfl (els' := List.map Arr.c (((mkTo (mArr k) a j).set j (Arr.mk (mText (k + 2 * (j : Int))) (((mkTo (mArr k) a j).getD (j) default).size))).set j (Arr.mk ((((mkTo (mArr k) a j).set j (Arr.mk (mText (k + 2 * (j : Int))) (((mkTo (mArr k) a j).getD (j) default).size))).getD (j) default).name) (IntKind.wrap .i64 ((k + 2 * (j : Int)) + 1))))) t2 rfl rfl rfl rfl (map_get (by first | omega | (rw [List.length_set]; omega))) rfl rfl (.cons _ _ _ _ _ _ (.d _) .nil) rfl (Nat.le_of_ble_eq_true rfl) (set_map _ _ _ (Arr.mk ((((mkTo (mArr k) a j).set j (Arr.mk (mText (k + 2 * (j : Int))) (((mkTo (mArr k) a j).getD (j) default).size))).getD (j) default).name) (IntKind.wrap .i64 ((k + 2 * (j : Int)) + 1))) _ rfl) rfl rfl ?_
        exact .fin (k8 + 1 + 1 + 1 + 1 + 1) (.of (.cons rfl (.cons rfl (.cons rfl .nil))) (.cons rfl .nil))
      intro g9
      refine .reg (X := Unit) (fun ζ => .of [(0, .one (.ref [0, 0, 0] (0))), (1, .one (.d (.v (.int .i64 (IntKind.wrap .i64 ((IntKind.wrap .i64 ((k + 2 * (j : Int)) + 1)) + 1)))))), (5, .one (.d (.v (.int .i64 ((j : Int))))))] [([0, 0, 0], (0, g9, .row 98 2 (List.map Arr.c (((mkTo (mArr k) a j).set j (Arr.mk (mText (k + 2 * (j : Int))) (((mkTo (mArr k) a j).getD (j) default).size))).set j (Arr.mk ((((mkTo (mArr k) a j).set j (Arr.mk (mText (k + 2 * (j : Int))) (((mkTo (mArr k) a j).getD (j) default).size))).getD (j) default).name) (IntKind.wrap .i64 ((k + 2 * (j : Int)) + 1)))))))]) [⟨[1], some 25, [], []⟩, ⟨[25], some 26, [], []⟩, ⟨[26], some 1, [], []⟩] (fun k10 => ?_) ?_
      · skip
        refine .move (.no rfl) rfl rfl rfl rfl ?_
        refine .bin (.no rfl) rfl rfl rfl rfl rfl rfl ?_
        refine .assign (.no rfl) rfl rfl rfl rfl ?_
        exact .fin () (.of (.cons rfl (.cons rfl (.cons rfl .nil))) (.cons rfl .nil))
      intro _
      refine .reg (X := Unit) (fun ζ => .of [(0, .one (.ref [0, 0, 0] (0))), (1, .one (.d (.v (.int .i64 (IntKind.wrap .i64 ((IntKind.wrap .i64 ((k + 2 * (j : Int)) + 1)) + 1)))))), (5, .one (.d (.v (.int .i64 (IntKind.wrap .i64 ((j : Int) + 1))))))] [([0, 0, 0], (0, g9, .row 98 2 (List.map Arr.c (((mkTo (mArr k) a j).set j (Arr.mk (mText (k + 2 * (j : Int))) (((mkTo (mArr k) a j).getD (j) default).size))).set j (Arr.mk ((((mkTo (mArr k) a j).set j (Arr.mk (mText (k + 2 * (j : Int))) (((mkTo (mArr k) a j).getD (j) default).size))).getD (j) default).name) (IntKind.wrap .i64 ((k + 2 * (j : Int)) + 1)))))))]) [⟨[5], some 10, [], []⟩, ⟨[10], some 11, [], []⟩, ⟨[11], some 5, [], []⟩] (fun k11 => ?_) ?_
      · skip
        refine .move (.no rfl) rfl rfl rfl rfl ?_
        refine .bin (.no rfl) rfl rfl rfl rfl rfl rfl ?_
        refine .assign (.no rfl) rfl rfl rfl rfl ?_
        exact .fin () (.of (.cons rfl (.cons rfl (.cons rfl .nil))) (.cons rfl .nil))
      intro _
      exact .here ((j + 1), g9) (.of (.cons rfl (.cons (svI (show (IntKind.wrap .i64 ((IntKind.wrap .i64 ((k + 2 * (j : Int)) + 1)) + 1)) = (k + 2 * ((j + 1) : Int)) by first | omega | exact wrap_le (by omega) (by omega) | (rw [wrap_le (by omega) (by omega)]; omega) | (rw [wrap_le (a := k + 2 * (j : Int) + 1) (by omega) (by omega), wrap_le (by omega) (by omega)]; omega))) (.cons (svI (show (IntKind.wrap .i64 ((j : Int) + 1)) = (((j + 1) : Int)) by first | omega | exact wrap_le (by omega) (by omega) | (rw [wrap_le (by omega) (by omega)]; omega) | (rw [wrap_le (a := k + 2 * (j : Int) + 1) (by omega) (by omega), wrap_le (by omega) (by omega)]; omega))) .nil))) (.cons (rowE (show List.map Arr.c (((mkTo (mArr k) a j).set j (Arr.mk (mText (k + 2 * (j : Int))) (((mkTo (mArr k) a j).getD (j) default).size))).set j (Arr.mk ((((mkTo (mArr k) a j).set j (Arr.mk (mText (k + 2 * (j : Int))) (((mkTo (mArr k) a j).getD (j) default).size))).getD (j) default).name) (IntKind.wrap .i64 ((k + 2 * (j : Int)) + 1)))) = List.map Arr.c (mkTo (mArr k) a (j + 1)) by first | (rw [← mkTo_zero]) | (rw [List.set_set, set_getD (by rw [mkTo_len]; omega), mkTo_step _ _ (by omega) (by simp only [mArr]; rw [wrap_le (a := k + 2 * (j : Int) + 1) (by omega) (by omega)])]))) .nil)) ⟨(show (j + 1) ≤ a.length by omega), (show a.length - (j + 1) < a.length - j by omega)⟩
    · have c0 := of_decide_eq_false c0
      refine .exit ?_
      refine .seq ?_
      refine .reg (X := Unit) (fun ζ => .of [(0, .one (.ref [0, 0, 0] (0))), (4, .one (.d (.v (.int .i64 (k + 2 * (j : Int))))))] [([0, 0, 0], (0, q3, .row 98 2 (List.map Arr.c (mkTo (mArr k) a j))))]) [⟨[1], some 27, [], []⟩, ⟨[27], some 4, [], []⟩] (fun k12 => ?_) ?_
      · skip
        refine .move (.no rfl) rfl rfl rfl rfl ?_
        refine .assign (.no rfl) rfl rfl rfl rfl ?_
        exact .fin () (.of (.cons rfl (.cons rfl .nil)) (.cons rfl .nil))
      intro _
      refine .ret ?_
      have e13 : (k + 2 * (j : Int)) = (k + 2 * (a.length : Int)) := by first | omega | exact mkTo_all _ _ hI (by omega)
      have hc14 := eq1 (fun z1 => SV.one (.d (.v (.int .i64 (z1))))) e13
      have e15 : (mkTo (mArr k) a j) = (mkAll (mArr k) a) := by first | omega | exact mkTo_all _ _ hI (by omega)
      show _ ∧ _
      exact ⟨.inr rfl, .done ⟨_, [], [([0, 0, 0], (0, q3, .row 98 2 (List.map Arr.c (mkAll (mArr k) a))))], _, .one (c := .d (.v (.int .i64 (k + 2 * (a.length : Int))))) (hc14) .nil, .cons (Reads.d _).gives (.cons (.ref (.head _)) .nil), nodupB_ok rfl, by simp, (AllH.get (.cons (rowE (congrArg (List.map Arr.c) e15)) .nil))⟩⟩
theorem c_markIntervalS (a : List Iv) (k : Int) (hk : 0 ≤ k ∧ k + 2 * (a.length : Int) < 4611686018427387904) : Trip Tryd.prog 55 [(false, 1), (false, 1)] ([.sl true 97 2 (List.map Iv.c (a))] ++ [.v (.int .i64 (k))]) [(false, 1)] [.v (.int .i64 (k + 2 * (a.length : Int)))] [(0, .sl true 97 2 (List.map Iv.c (mkAll (mIv k) a)))] := by
  refine Trip.of Tryd.func55 (by decide) (c := _) rfl rfl (shB_ok rfl) (Nat.le_of_ble_eq_true rfl) rfl (AftOk.sl rfl (AftOk.nil _)) ?_
  refine .seq ?_
  refine .reg (X := Unit) (fun ζ => .of [(0, .one (.ref [0, 0, 0] (0))), (1, .one (.d (.v (.int .i64 (k)))))] [([0, 0, 0], (0, 0, .row 97 2 (List.map Iv.c (a))))]) [⟨[], some 4, [], []⟩] (fun k1 => ?_) ?_
  · skip
    refine .assign (.no rfl) rfl rfl rfl rfl ?_
    exact .fin () (.of (.cons rfl (.cons rfl .nil)) (.cons rfl .nil))
  intro _
  refine .seq ?_
  refine .seq ?_
  refine .reg (X := Unit) (fun ζ => .of [(0, .one (.ref [0, 0, 0] (0))), (1, .one (.d (.v (.int .i64 (k))))), (5, .one (.d (.v (.int .i64 (0)))))] [([0, 0, 0], (0, 0, .row 97 2 (List.map Iv.c (a))))]) [⟨[], some 5, [], []⟩] (fun k2 => ?_) ?_
  · skip
    refine .assign (.no rfl) rfl rfl rfl rfl ?_
    exact .fin () (.of (.cons rfl (.cons rfl (.cons rfl .nil))) (.cons rfl .nil))
  intro _
  refine .block ?_
  refine .loop (X := Nat × Nat) (fun ζ => .of [(0, .one (.ref [0, 0, 0] (0))), (1, .one (.d (.v (.int .i64 (k + 2 * (ζ.1 : Int)))))), (5, .one (.d (.v (.int .i64 ((ζ.1 : Int))))))] [([0, 0, 0], (0, ζ.2, .row 97 2 (List.map Iv.c (mkTo (mIv k) a ζ.1))))]) (fun ζ => ζ.1 ≤ a.length) (fun ζ => a.length - ζ.1) ?_ ?_
  · skip
    exact .here (0, 0) (.of (.cons rfl (.cons (svI (show (k) = (k + 2 * (0 : Int)) by first | omega | exact wrap_le (by omega) (by omega) | (rw [wrap_le (by omega) (by omega)]; omega) | (rw [wrap_le (a := k + 2 * (j : Int) + 1) (by omega) (by omega), wrap_le (by omega) (by omega)]; omega))) (.cons (svI (show (0) = ((0 : Int)) by first | omega | exact wrap_le (by omega) (by omega) | (rw [wrap_le (by omega) (by omega)]; omega) | (rw [wrap_le (a := k + 2 * (j : Int) + 1) (by omega) (by omega), wrap_le (by omega) (by omega)]; omega))) .nil))) (.cons (rowE (show List.map Iv.c (a) = List.map Iv.c (mkTo (mIv k) a 0) by first | (rw [← mkTo_zero]) | (rw [List.set_set, set_getD (by rw [mkTo_len]; omega), mkTo_step _ _ (by omega) (by simp only [mIv]; rw [wrap_le (a := k + 2 * (j : Int) + 1) (by omega) (by omega)])]))) .nil)) (show 0 ≤ a.length by omega)
  · rintro ⟨j, q3⟩ hI
    have hI : j ≤ a.length := hI
    have hL : (mkTo (mIv k) a j).length = a.length := mkTo_len _ _ _
    refine .seq ?_
    refine .seq ?_
    refine .reg (X := Unit) (fun ζ => .of [(0, .one (.ref [0, 0, 0] (0))), (1, .one (.d (.v (.int .i64 (k + 2 * (j : Int)))))), (5, .one (.d (.v (.int .i64 ((j : Int)))))), (9, .one (.d (.v (.bool (decide ((j : Int) < ((mkTo (mIv k) a j).length : Int)))))))] [([0, 0, 0], (0, q3, .row 97 2 (List.map Iv.c (mkTo (mIv k) a j))))]) [⟨[5], some 6, [], []⟩, ⟨[0], some 7, [], []⟩, ⟨[7], some 8, [[0, 0, 0]], []⟩, ⟨[6, 8], some 9, [], []⟩] (fun k4 => ?_) ?_
    · skip
      refine .move (.no rfl) rfl rfl rfl rfl ?_
      refine .move (.no rfl) rfl rfl rfl rfl ?_
      refine .len (.no rfl) rfl (z := ((mkTo (mIv k) a j).length : Int)) t42 rfl rfl rfl (.ref _ _ _ _ _ rfl) (map_len _ _) rfl ?_
      refine .bin (.no rfl) rfl rfl rfl rfl rfl rfl ?_
      exact .fin () (.of (.cons rfl (.cons rfl (.cons rfl (.cons rfl .nil)))) (.cons rfl .nil))
    intro _
    refine .cond (t := decide ((j : Int) < ((mkTo (mIv k) a j).length : Int))) rfl (fun c0 => ?_) (fun c0 => ?_)
    · have c0 := of_decide_eq_true c0
      refine .skip ?_
      refine .seq ?_
      refine .block ?_
      refine .seq ?_
      refine .reg (X := Nat) (fun ζ => .of [(0, .one (.ref [0, 0, 0] (0))), (1, .one (.d (.v (.int .i64 (k + 2 * (j : Int)))))), (5, .one (.d (.v (.int .i64 ((j : Int))))))] [([0, 0, 0], (0, ζ, .row 97 2 (List.map Iv.c ((mkTo (mIv k) a j).set j (Iv.mk (k + 2 * (j : Int)) (((mkTo (mIv k) a j).getD (j) default).hi))))))]) [⟨[0], some 12, [], []⟩, ⟨[5], some 13, [], []⟩, ⟨[1], some 14, [], []⟩, ⟨[12, 13], some 15, [[0, 0, 0]], []⟩, ⟨[15], some 16, [], []⟩, ⟨[16, 14], none, [[0, 0, 0]], [[0, 0, 0]]⟩] (fun k5 => ?_) ?_
      · skip
        refine .move (.no rfl) rfl rfl rfl rfl ?_
        refine .move (.no rfl) rfl rfl rfl rfl ?_
        refine .move (.no rfl) rfl rfl rfl rfl ?_
        refine .indexAddr (.no rfl) rfl (j) t42 rfl t97 rfl rfl rfl (.ref _ _ _ _ _ rfl) rfl rfl rfl (map_get (by first | omega | (rw [List.length_set]; omega))) rfl rfl ?_
        refine .fieldAddr (.no rfl) rfl t97 rfl rfl t2 rfl rfl rfl rfl [] (by simp) (by intro _ _ _ h; cases h) rfl rfl ?_
        refine .storeE (.no rfl) rfl (els' := List.map Iv.c ((mkTo (mIv k) a j).set j (Iv.mk (k + 2 * (j : Int)) (((mkTo (mIv k) a j).getD (j) default).hi)))) t2 rfl rfl rfl rfl (map_get (by first | omega | (rw [List.length_set]; omega))) rfl rfl (.cons _ _ _ _ _ _ (.d _) .nil) rfl (Nat.le_of_ble_eq_true rfl) (set_map _ _ _ (Iv.mk (k + 2 * (j : Int)) (((mkTo (mIv k) a j).getD (j) default).hi)) _ rfl) rfl rfl ?_
        exact .fin (k5 + 1 + 1 + 1 + 1 + 1) (.of (.cons rfl (.cons rfl (.cons rfl .nil))) (.cons rfl .nil))
      intro g6
      refine .seq ?_
      refine .reg (X := Unit) (fun ζ => .of [(0, .one (.ref [0, 0, 0] (0))), (1, .one (.d (.v (.int .i64 (IntKind.wrap .i64 ((k + 2 * (j : Int)) + 1)))))), (5, .one (.d (.v (.int .i64 ((j : Int))))))] [([0, 0, 0], (0, g6, .row 97 2 (List.map Iv.c ((mkTo (mIv k) a j).set j (Iv.mk (k + 2 * (j : Int)) (((mkTo (mIv k) a j).getD (j) default).hi))))))]) [⟨[1], some 17, [], []⟩, ⟨[17], some 18, [], []⟩, ⟨[18], some 1, [], []⟩] (fun k7 => ?_) ?_
      · skip
        refine .move (.no rfl) rfl rfl rfl rfl ?_
        refine .bin (.no rfl) rfl rfl rfl rfl rfl rfl ?_
        refine .assign (.no rfl) rfl rfl rfl rfl ?_
        exact .fin () (.of (.cons rfl (.cons rfl (.cons rfl .nil))) (.cons rfl .nil))
      intro _
      refine .seq ?_
      refine .reg (X := Nat) (fun ζ => .of [(0, .one (.ref [0, 0, 0] (0))), (1, .one (.d (.v (.int .i64 (IntKind.wrap .i64 ((k + 2 * (j : Int)) + 1)))))), (5, .one (.d (.v (.int .i64 ((j : Int))))))] [([0, 0, 0], (0, ζ, .row 97 2 (List.map Iv.c (((mkTo (mIv k) a j).set j (Iv.mk (k + 2 * (j : Int)) (((mkTo (mIv k) a j).getD (j) default).hi))).set j (Iv.mk ((((mkTo (mIv k) a j).set j (Iv.mk (k + 2 * (j : Int)) (((mkTo (mIv k) a j).getD (j) default).hi))).getD (j) default).lo) (IntKind.wrap .i64 ((k + 2 * (j : Int)) + 1)))))))]) [⟨[0], some 19, [], []⟩, ⟨[5], some 20, [], []⟩, ⟨[1], some 21, [], []⟩, ⟨[19, 20], some 22, [[0, 0, 0]], []⟩, ⟨[22], some 23, [], []⟩, ⟨[23, 21], none, [[0, 0, 0]], [[0, 0, 0]]⟩] (fun k8 => ?_) ?_
      · skip
        refine .move (.no rfl) rfl rfl rfl rfl ?_
        refine .move (.no rfl) rfl rfl rfl rfl ?_
        refine .move (.no rfl) rfl rfl rfl rfl ?_
        refine .indexAddr (.no rfl) rfl (j) t42 rfl t97 rfl rfl rfl (.ref _ _ _ _ _ rfl) rfl rfl rfl (map_get (by first | omega | (rw [List.length_set]; omega))) rfl rfl ?_
        refine .fieldAddr (.no rfl) rfl t97 rfl rfl t2 rfl rfl rfl rfl [] (by simp) (by intro _ _ _ h; cases h) rfl rfl ?_
        refine .storeE (.no rfl) rfl (els' := List.map Iv.c (((mkTo (mIv k) a j).set j (Iv.mk (k + 2 * (j : Int)) (((mkTo (mIv k) a j).getD (j) default).hi))).set j (Iv.mk ((((mkTo (mIv k) a j).set j (Iv.mk (k + 2 * (j : Int)) (((mkTo (mIv k) a j).getD (j) default).hi))).getD (j) default).lo) (IntKind.wrap .i64 ((k + 2 * (j : Int)) + 1))))) t2 rfl rfl rfl rfl (map_get (by first | omega | (rw [List.length_set]; omega))) rfl rfl (.cons _ _ _ _ _ _ (.d _) .nil) rfl (Nat.le_of_ble_eq_true rfl) (set_map _ _ _ (Iv.mk ((((mkTo (mIv k) a j).set j (Iv.mk (k + 2 * (j : Int)) (((mkTo (mIv k) a j).getD (j) default).hi))).getD (j) default).lo) (IntKind.wrap .i64 ((k + 2 * (j : Int)) + 1))) _ rfl) rfl rfl ?_
        exact .fin (k8 + 1 + 1 + 1 + 1 + 1) (.of (.cons rfl (.cons rfl (.cons rfl .nil))) (.cons rfl .nil))
      intro g9
      refine .reg (X := Unit) (fun ζ => .of [(0, .one (.ref [0, 0, 0] (0))), (1, .one (.d (.v (.int .i64 (IntKind.wrap .i64 ((IntKind.wrap .i64 ((k + 2 * (j : Int)) + 1)) + 1)))))), (5, .one (.d (.v (.int .i64 ((j : Int))))))] [([0, 0, 0], (0, g9, .row 97 2 (List.map Iv.c (((mkTo (mIv k) a j).set j (Iv.mk (k + 2 * (j : Int)) (((mkTo (mIv k) a j).getD (j) default).hi))).set j (Iv.mk ((((mkTo (mIv k) a j).set j (Iv.mk (k + 2 * (j : Int)) (((mkTo (mIv k) a j).getD (j) default).hi))).getD (j) default).lo) (IntKind.wrap .i64 ((k + 2 * (j : Int)) + 1)))))))]) [⟨[1], some 24, [], []⟩, ⟨[24], some 25, [], []⟩, ⟨[25], some 1, [], []⟩] (fun k10 => ?_) ?_
      · skip
        refine .move (.no rfl) rfl rfl rfl rfl ?_
        refine .bin (.no rfl) rfl rfl rfl rfl rfl rfl ?_
        refine .assign (.no rfl) rfl rfl rfl rfl ?_
        exact .fin () (.of (.cons rfl (.cons rfl (.cons rfl .nil))) (.cons rfl .nil))
      intro _
      refine .reg (X := Unit) (fun ζ => .of [(0, .one (.ref [0, 0, 0] (0))), (1, .one (.d (.v (.int .i64 (IntKind.wrap .i64 ((IntKind.wrap .i64 ((k + 2 * (j : Int)) + 1)) + 1)))))), (5, .one (.d (.v (.int .i64 (IntKind.wrap .i64 ((j : Int) + 1))))))] [([0, 0, 0], (0, g9, .row 97 2 (List.map Iv.c (((mkTo (mIv k) a j).set j (Iv.mk (k + 2 * (j : Int)) (((mkTo (mIv k) a j).getD (j) default).hi))).set j (Iv.mk ((((mkTo (mIv k) a j).set j (Iv.mk (k + 2 * (j : Int)) (((mkTo (mIv k) a j).getD (j) default).hi))).getD (j) default).lo) (IntKind.wrap .i64 ((k + 2 * (j : Int)) + 1)))))))]) [⟨[5], some 10, [], []⟩, ⟨[10], some 11, [], []⟩, ⟨[11], some 5, [], []⟩] (fun k11 => ?_) ?_
      · skip
        refine .move (.no rfl) rfl rfl rfl rfl ?_
        refine .bin (.no rfl) rfl rfl rfl rfl rfl rfl ?_
        refine .assign (.no rfl) rfl rfl rfl rfl ?_
        exact .fin () (.of (.cons rfl (.cons rfl (.cons rfl .nil))) (.cons rfl .nil))
      intro _
      exact .here ((j + 1), g9) (.of (.cons rfl (.cons (svI (show (IntKind.wrap .i64 ((IntKind.wrap .i64 ((k + 2 * (j : Int)) + 1)) + 1)) = (k + 2 * ((j + 1) : Int)) by first | omega | exact wrap_le (by omega) (by omega) | (rw [wrap_le (by omega) (by omega)]; omega) | (rw [wrap_le (a := k + 2 * (j : Int) + 1) (by omega) (by omega), wrap_le (by omega) (by omega)]; omega))) (.cons (svI (show (IntKind.wrap .i64 ((j : Int) + 1)) = (((j + 1) : Int)) by first | omega | exact wrap_le (by omega) (by omega) | (rw [wrap_le (by omega) (by omega)]; omega) | (rw [wrap_le (a := k + 2 * (j : Int) + 1) (by omega) (by omega), wrap_le (by omega) (by omega)]; omega))) .nil))) (.cons (rowE (show List.map Iv.c (((mkTo (mIv k) a j).set j (Iv.mk (k + 2 * (j : Int)) (((mkTo (mIv k) a j).getD (j) default).hi))).set j (Iv.mk ((((mkTo (mIv k) a j).set j (Iv.mk (k + 2 * (j : Int)) (((mkTo (mIv k) a j).getD (j) default).hi))).getD (j) default).lo) (IntKind.wrap .i64 ((k + 2 * (j : Int)) + 1)))) = List.map Iv.c (mkTo (mIv k) a (j + 1)) by first | (rw [← mkTo_zero]) | (rw [List.set_set, set_getD (by rw [mkTo_len]; omega), mkTo_step _ _ (by omega) (by simp only [mIv]; rw [wrap_le (a := k + 2 * (j : Int) + 1) (by omega) (by omega)])]))) .nil)) ⟨(show (j + 1) ≤ a.length by omega), (show a.length - (j + 1) < a.length - j by omega)⟩
    · have c0 := of_decide_eq_false c0
      refine .exit ?_
      refine .seq ?_
      refine .reg (X := Unit) (fun ζ => .of [(0, .one (.ref [0, 0, 0] (0))), (4, .one (.d (.v (.int .i64 (k + 2 * (j : Int))))))] [([0, 0, 0], (0, q3, .row 97 2 (List.map Iv.c (mkTo (mIv k) a j))))]) [⟨[1], some 26, [], []⟩, ⟨[26], some 4, [], []⟩] (fun k12 => ?_) ?_
      · skip
        refine .move (.no rfl) rfl rfl rfl rfl ?_
        refine .assign (.no rfl) rfl rfl rfl rfl ?_
        exact .fin () (.of (.cons rfl (.cons rfl .nil)) (.cons rfl .nil))
      intro _
      refine .ret ?_
      have e13 : (k + 2 * (j : Int)) = (k + 2 * (a.length : Int)) := by first | omega | exact mkTo_all _ _ hI (by omega)
      have hc14 := eq1 (fun z1 => SV.one (.d (.v (.int .i64 (z1))))) e13
      have e15 : (mkTo (mIv k) a j) = (mkAll (mIv k) a) := by first | omega | exact mkTo_all _ _ hI (by omega)
      show _ ∧ _
      exact ⟨.inr rfl, .done ⟨_, [], [([0, 0, 0], (0, q3, .row 97 2 (List.map Iv.c (mkAll (mIv k) a))))], _, .one (c := .d (.v (.int .i64 (k + 2 * (a.length : Int))))) (hc14) .nil, .cons (Reads.d _).gives (.cons (.ref (.head _)) .nil), nodupB_ok rfl, by simp, (AllH.get (.cons (rowE (congrArg (List.map Iv.c) e15)) .nil))⟩⟩
theorem c_markDecl (a : Decl) (k : Int) (hk : 0 ≤ k ∧ k ≤ 1073741824) (hl : a.vars.length ≤ 1048576 ∧ a.flags.length ≤ 1048576 ∧ a.arrays.length ≤ 1048576) : Trip Tryd.prog 21 [(true, 3), (false, 1)] ([.sl true 9 1 (List.map strc (a.vars)), .sl true 9 1 (List.map strc (a.flags)), .sl true 98 2 (List.map Arr.c (a.arrays))] ++ [.v (.int .i64 (k))]) [(false, 1)] [.v (.int .i64 (Decl.marks k a))] [(0, .sl true 9 1 (List.map strc ((Decl.mark k a).vars))), (1, .sl true 9 1 (List.map strc ((Decl.mark k a).flags))), (2, .sl true 98 2 (List.map Arr.c ((Decl.mark k a).arrays)))] := by
  refine Trip.of Tryd.func21 (by decide) (c := _) rfl rfl (shB_ok rfl) (Nat.le_of_ble_eq_true rfl) rfl (AftOk.sl rfl (AftOk.sl rfl (AftOk.sl rfl (AftOk.nil _)))) ?_
  refine .seq ?_
  refine .reg (X := Nat) (fun ζ => .of [(0, .agg [.ref [0, 0, 0] (0), .ref [1, 0, 0] (0), .ref [2, 0, 0] (0)]), (1, .one (.d (.v (.int .i64 (k))))), (2, .one (.ptr [2] (ζ) 0))] [([0, 0, 0], (0, 0, .row 9 1 (List.map strc (a.vars)))), ([1, 0, 0], (0, 0, .row 9 1 (List.map strc (a.flags)))), ([2], (ζ, ζ, .box [.ref [0, 0, 0] (0), .ref [1, 0, 0] (0), .ref [2, 0, 0] (0)])), ([2, 0, 0], (0, 0, .row 98 2 (List.map Arr.c (a.arrays))))]) [⟨[0], some 2, [], [[2]]⟩, ⟨[], some 4, [], []⟩] (fun k1 => ?_) ?_
  · skip
    refine .box (.no rfl) rfl rfl rfl rfl rfl ?_
    refine .assign (.no rfl) rfl rfl rfl rfl ?_
    exact .fin k1 (.of (.cons rfl (.cons rfl (.cons rfl .nil))) (.cons rfl (.cons rfl (.cons rfl (.cons rfl .nil)))))
  intro g2
  refine .seq ?_
  refine .reg (X := Nat) (fun ζ => .of [(0, .agg [.ref [0, 0, 0] (0), .ref [1, 0, 0] (0), .ref [2, 0, 0] (0)]), (1, .one (.d (.v (.int .i64 (k + (a.vars.length : Int)))))), (2, .one (.ptr [2] (g2) 0))] [([0, 0, 0], (0, ζ, .row 9 1 (List.map strc (mkAll (mStr k) a.vars)))), ([1, 0, 0], (0, 0, .row 9 1 (List.map strc (a.flags)))), ([2], (g2, g2, .box [.ref [0, 0, 0] (0), .ref [1, 0, 0] (0), .ref [2, 0, 0] (0)])), ([2, 0, 0], (0, 0, .row 98 2 (List.map Arr.c (a.arrays))))]) [⟨[2], some 5, [], []⟩, ⟨[5], some 6, [[2]], []⟩, ⟨[1], some 7, [], []⟩, ⟨[6, 7], some 8, [[0, 0, 0]], [[0, 0, 0], [0, 0, 0]]⟩, ⟨[8], some 1, [], []⟩] (fun k3 => ?_) ?_
  · skip
    refine .fieldAddrP (.no rfl) rfl t40 rfl rfl t22 rfl rfl rfl rfl ?_
    refine .load (.no rfl) rfl t22 rfl rfl (.ptr _ _ _ _ _ rfl) rfl rfl rfl rfl ?_
    refine .move (.no rfl) rfl rfl rfl rfl ?_
    refine .call (.no rfl) rfl [] [([0, 0, 0], (0, 0, .row 9 1 (List.map strc (a.vars))))] (c_markStringS a.vars k (by omega)) rfl rfl rfl rfl rfl (.cons (.ref (.head _)) (.cons (Reads.d _).gives .nil)) rfl rfl (fun h => absurd rfl h) (.own [8, 0] .nil) (.ref rfl (.head _) (by simp) .nil) rfl rfl rfl (AllH.get (.cons rfl .nil)) rfl rfl rfl ?_
    refine .assign (.no rfl) rfl rfl rfl rfl ?_
    exact .fin (k3 + 1 + 1 + 1) (.of (.cons rfl (.cons rfl (.cons rfl .nil))) (.cons rfl (.cons rfl (.cons rfl (.cons rfl .nil)))))
  intro g4
  refine .seq ?_
  refine .reg (X := Nat) (fun ζ => .of [(0, .agg [.ref [0, 0, 0] (0), .ref [1, 0, 0] (0), .ref [2, 0, 0] (0)]), (1, .one (.d (.v (.int .i64 ((k + (a.vars.length : Int)) + (a.flags.length : Int)))))), (2, .one (.ptr [2] (g2) 0))] [([0, 0, 0], (0, g4, .row 9 1 (List.map strc (mkAll (mStr k) a.vars)))), ([1, 0, 0], (0, ζ, .row 9 1 (List.map strc (mkAll (mStr (k + (a.vars.length : Int))) a.flags)))), ([2], (g2, g2, .box [.ref [0, 0, 0] (0), .ref [1, 0, 0] (0), .ref [2, 0, 0] (0)])), ([2, 0, 0], (0, 0, .row 98 2 (List.map Arr.c (a.arrays))))]) [⟨[2], some 9, [], []⟩, ⟨[9], some 10, [[2]], []⟩, ⟨[1], some 11, [], []⟩, ⟨[10, 11], some 12, [[1, 0, 0]], [[1, 0, 0], [1, 0, 0]]⟩, ⟨[12], some 1, [], []⟩] (fun k5 => ?_) ?_
  · skip
    refine .fieldAddrP (.no rfl) rfl t40 rfl rfl t22 rfl rfl rfl rfl ?_
    refine .load (.no rfl) rfl t22 rfl rfl (.ptr _ _ _ _ _ rfl) rfl rfl rfl rfl ?_
    refine .move (.no rfl) rfl rfl rfl rfl ?_
    refine .call (.no rfl) rfl [] [([1, 0, 0], (0, 0, .row 9 1 (List.map strc (a.flags))))] (c_markStringS a.flags (k + (a.vars.length : Int)) (by omega)) rfl rfl rfl rfl rfl (.cons (.ref (.head _)) (.cons (Reads.d _).gives .nil)) rfl rfl (fun h => absurd rfl h) (.own [12, 0] .nil) (.ref rfl (.head _) (by simp) .nil) rfl rfl rfl (AllH.get (.cons rfl .nil)) rfl rfl rfl ?_
    refine .assign (.no rfl) rfl rfl rfl rfl ?_
    exact .fin (k5 + 1 + 1 + 1) (.of (.cons rfl (.cons rfl (.cons rfl .nil))) (.cons rfl (.cons rfl (.cons rfl (.cons rfl .nil)))))
  intro g6
  refine .seq ?_
  refine .reg (X := Nat) (fun ζ => .of [(0, .agg [.ref [0, 0, 0] (0), .ref [1, 0, 0] (0), .ref [2, 0, 0] (0)]), (1, .one (.d (.v (.int .i64 (((k + (a.vars.length : Int)) + (a.flags.length : Int)) + 2 * (a.arrays.length : Int))))))] [([0, 0, 0], (0, g4, .row 9 1 (List.map strc (mkAll (mStr k) a.vars)))), ([1, 0, 0], (0, g6, .row 9 1 (List.map strc (mkAll (mStr (k + (a.vars.length : Int))) a.flags)))), ([2, 0, 0], (0, ζ, .row 98 2 (List.map Arr.c (mkAll (mArr ((k + (a.vars.length : Int)) + (a.flags.length : Int))) a.arrays))))]) [⟨[2], some 13, [], []⟩, ⟨[13], some 14, [[2]], []⟩, ⟨[1], some 15, [], []⟩, ⟨[14, 15], some 16, [[2, 0, 0]], [[2, 0, 0], [2, 0, 0]]⟩, ⟨[16], some 1, [], []⟩] (fun k7 => ?_) ?_
  · skip
    refine .fieldAddrP (.no rfl) rfl t40 rfl rfl t38 rfl rfl rfl rfl ?_
    refine .load (.no rfl) rfl t38 rfl rfl (.ptr _ _ _ _ _ rfl) rfl rfl rfl rfl ?_
    refine .move (.no rfl) rfl rfl rfl rfl ?_
    refine .call (.no rfl) rfl [] [([2, 0, 0], (0, 0, .row 98 2 (List.map Arr.c (a.arrays))))] (c_markArrS a.arrays ((k + (a.vars.length : Int)) + (a.flags.length : Int)) (by omega)) rfl rfl rfl rfl rfl (.cons (.ref (.head _)) (.cons (Reads.d _).gives .nil)) rfl rfl (fun h => absurd rfl h) (.own [16, 0] .nil) (.ref rfl (.head _) (by simp) .nil) rfl rfl rfl (AllH.get (.cons rfl .nil)) rfl rfl rfl ?_
    refine .assign (.no rfl) rfl rfl rfl rfl ?_
    exact .fin (k7 + 1 + 1 + 1) (.of (.cons rfl (.cons rfl .nil)) (.cons rfl (.cons rfl (.cons rfl .nil))))
  intro g8
  refine .seq ?_
  refine .reg (X := Unit) (fun ζ => .of [(0, .agg [.ref [0, 0, 0] (0), .ref [1, 0, 0] (0), .ref [2, 0, 0] (0)]), (4, .one (.d (.v (.int .i64 (((k + (a.vars.length : Int)) + (a.flags.length : Int)) + 2 * (a.arrays.length : Int))))))] [([0, 0, 0], (0, g4, .row 9 1 (List.map strc (mkAll (mStr k) a.vars)))), ([1, 0, 0], (0, g6, .row 9 1 (List.map strc (mkAll (mStr (k + (a.vars.length : Int))) a.flags)))), ([2, 0, 0], (0, g8, .row 98 2 (List.map Arr.c (mkAll (mArr ((k + (a.vars.length : Int)) + (a.flags.length : Int))) a.arrays))))]) [⟨[1], some 17, [], []⟩, ⟨[17], some 4, [], []⟩] (fun k9 => ?_) ?_
  · skip
    refine .move (.no rfl) rfl rfl rfl rfl ?_
    refine .assign (.no rfl) rfl rfl rfl rfl ?_
    exact .fin () (.of (.cons rfl (.cons rfl .nil)) (.cons rfl (.cons rfl (.cons rfl .nil))))
  intro _
  refine .ret ?_
  have e10 : (((k + (a.vars.length : Int)) + (a.flags.length : Int)) + 2 * (a.arrays.length : Int)) = (Decl.marks k a) := by rfl
  have hc11 := eq1 (fun z1 => SV.one (.d (.v (.int .i64 (z1))))) e10
  have e12 : (mkAll (mStr k) a.vars) = ((Decl.mark k a).vars) := by rfl
  have e13 : (mkAll (mStr (k + (a.vars.length : Int))) a.flags) = ((Decl.mark k a).flags) := by rfl
  have e14 : (mkAll (mArr ((k + (a.vars.length : Int)) + (a.flags.length : Int))) a.arrays) = ((Decl.mark k a).arrays) := by rfl
  show _ ∧ _
  exact ⟨.inr rfl, .done ⟨_, [], [([0, 0, 0], (0, g4, .row 9 1 (List.map strc ((Decl.mark k a).vars)))), ([1, 0, 0], (0, g6, .row 9 1 (List.map strc ((Decl.mark k a).flags)))), ([2, 0, 0], (0, g8, .row 98 2 (List.map Arr.c ((Decl.mark k a).arrays))))], _, .one (c := .d (.v (.int .i64 (Decl.marks k a)))) (hc11) .nil, .cons (Reads.d _).gives (.cons (.ref (.head _)) (.cons (.ref (.tail _ (.head _))) (.cons (.ref (.tail _ (.tail _ (.head _)))) .nil))), nodupB_ok rfl, by simp, (AllH.get (.cons (rowE (congrArg (List.map strc) e12)) (.cons (rowE (congrArg (List.map strc) e13)) (.cons (rowE (congrArg (List.map Arr.c) e14)) .nil))))⟩⟩
theorem c_heldIntervalS (a : List Iv) (k : Int) (hk : 0 ≤ k ∧ k + 2 * (a.length : Int) < 4611686018427387904) (hm : ∀ i, i < a.length → a.getD i default = mIv k i default) : Trip Tryd.prog 56 [(false, 1), (false, 1)] ([.sl false 97 2 (List.map Iv.c (a))] ++ [.v (.int .i64 (k))]) [(false, 1)] [.v (.int .i64 (k + 2 * (a.length : Int)))] [] := by
  refine Trip.of Tryd.func56 (by decide) (c := _) rfl rfl (shB_ok rfl) (Nat.le_of_ble_eq_true rfl) rfl (AftOk.nil _) ?_
  refine .sat (t := 0) rfl (fun hs1 => ?_)
  have hs1l : a.length ≤ 9223372036854775807 := hs1.maplen
  refine .seq ?_
  refine .reg (X := Unit) (fun ζ => .of [(0, .one (.d (.sl false 97 2 (List.map Iv.c (a))))), (1, .one (.d (.v (.int .i64 (k)))))] []) [⟨[], some 4, [], []⟩] (fun k2 => ?_) ?_
  · skip
    refine .assign (.no rfl) rfl rfl rfl rfl ?_
    exact .fin () (.of (.cons rfl (.cons rfl .nil)) .nil)
  intro _
  refine .seq ?_
  refine .seq ?_
  refine .reg (X := Unit) (fun ζ => .of [(0, .one (.d (.sl false 97 2 (List.map Iv.c (a))))), (1, .one (.d (.v (.int .i64 (k))))), (5, .one (.d (.v (.int .i64 (0)))))] []) [⟨[], some 5, [], []⟩] (fun k3 => ?_) ?_
  · skip
    refine .assign (.no rfl) rfl rfl rfl rfl ?_
    exact .fin () (.of (.cons rfl (.cons rfl (.cons rfl .nil))) .nil)
  intro _
  refine .block ?_
  refine .loop (X := Nat) (fun ζ => .of [(0, .one (.d (.sl false 97 2 (List.map Iv.c (a))))), (1, .one (.d (.v (.int .i64 (k + 2 * (ζ : Int)))))), (5, .one (.d (.v (.int .i64 ((ζ : Int))))))] []) (fun ζ => ζ ≤ a.length) (fun ζ => a.length - ζ) ?_ ?_
  · skip
    exact .here 0 (.of (.cons rfl (.cons (svI (show (k) = (k + 2 * (0 : Int)) by first | omega | exact wrap_le (by omega) (by omega) | (rw [wrap_le (by omega) (by omega)]; omega) | (rw [wrap_le (a := k + 2 * (j : Int) + 1) (by omega) (by omega), wrap_le (by omega) (by omega)]; omega))) (.cons (svI (show (0) = ((0 : Int)) by first | omega | exact wrap_le (by omega) (by omega) | (rw [wrap_le (by omega) (by omega)]; omega) | (rw [wrap_le (a := k + 2 * (j : Int) + 1) (by omega) (by omega), wrap_le (by omega) (by omega)]; omega))) .nil))) .nil) (show 0 ≤ a.length by omega)
  · rintro j hI
    have hI : j ≤ a.length := hI
    refine .seq ?_
    refine .seq ?_
    refine .reg (X := Unit) (fun ζ => .of [(0, .one (.d (.sl false 97 2 (List.map Iv.c (a))))), (1, .one (.d (.v (.int .i64 (k + 2 * (j : Int)))))), (5, .one (.d (.v (.int .i64 ((j : Int)))))), (9, .one (.d (.v (.bool (decide ((j : Int) < (a.length : Int)))))))] []) [⟨[5], some 6, [], []⟩, ⟨[0], some 7, [], []⟩, ⟨[7], some 8, [], []⟩, ⟨[6, 8], some 9, [], []⟩] (fun k4 => ?_) ?_
    · skip
      refine .move (.no rfl) rfl rfl rfl rfl ?_
      refine .move (.no rfl) rfl rfl rfl rfl ?_
      refine .len (.no rfl) rfl (z := (a.length : Int)) t42 rfl rfl rfl (.d _ _) (map_len _ _) rfl ?_
      refine .bin (.no rfl) rfl rfl rfl rfl rfl rfl ?_
      exact .fin () (.of (.cons rfl (.cons rfl (.cons rfl (.cons rfl .nil)))) .nil)
    intro _
    refine .cond (t := decide ((j : Int) < (a.length : Int))) rfl (fun c0 => ?_) (fun c0 => ?_)
    · have c0 := of_decide_eq_true c0
      refine .skip ?_
      refine .seq ?_
      refine .block ?_
      refine .seq ?_
      refine .seq ?_
      refine .reg (X := Unit) (fun ζ => .of [(0, .one (.d (.sl false 97 2 (List.map Iv.c (a))))), (1, .one (.d (.v (.int .i64 (k + 2 * (j : Int)))))), (5, .one (.d (.v (.int .i64 ((j : Int)))))), (18, .one (.d (.v (.bool (((a.getD j default).lo) != (k + 2 * (j : Int)))))))] []) [⟨[0], some 12, [], []⟩, ⟨[5], some 13, [], []⟩, ⟨[12, 13], some 14, [], []⟩, ⟨[14], some 15, [], []⟩, ⟨[15], some 16, [], []⟩, ⟨[1], some 17, [], []⟩, ⟨[16, 17], some 18, [], []⟩] (fun k5 => ?_) ?_
      · skip
        refine .move (.no rfl) rfl rfl rfl rfl ?_
        refine .move (.no rfl) rfl rfl rfl rfl ?_
        refine .indexAddr (.no rfl) rfl (j) t42 rfl t97 rfl rfl rfl (.d _ _) rfl rfl rfl (map_get (by omega)) rfl rfl ?_
        refine .fieldAddr (.no rfl) rfl t97 rfl rfl t2 rfl rfl rfl rfl [] (by simp) (by intro _ _ _ h; cases h) rfl rfl ?_
        refine .load (.no rfl) rfl t2 rfl rfl (.d _) rfl rfl rfl rfl ?_
        refine .move (.no rfl) rfl rfl rfl rfl ?_
        refine .bin (.no rfl) rfl rfl rfl rfl rfl rfl ?_
        exact .fin () (.of (.cons rfl (.cons rfl (.cons rfl (.cons rfl .nil)))) .nil)
      intro _
      refine .cond (t := ((a.getD j default).lo) != (k + 2 * (j : Int))) rfl (fun c1 => ?_) (fun c1 => ?_)
      · have c1 := (by simpa using c1 : ¬ (((a.getD j default).lo) = (k + 2 * (j : Int))))
        refine .seq ?_
        refine .reg (X := Unit) (fun ζ => .of [(4, .one (.d (.v (.int .i64 (-1)))))] []) [⟨[], some 4, [], []⟩] (fun k6 => ?_) ?_
        · skip
          refine .assign (.no rfl) rfl rfl rfl rfl ?_
          exact .fin () (.of (.cons rfl .nil) .nil)
        intro _
        refine .ret ?_
        have e7 : (-1) = (k + 2 * (a.length : Int)) := by (have h9 := hm j (by omega); rw [h9] at c1; simp [mIv] at c1)
        have hc8 := eq1 (fun z1 => SV.one (.d (.v (.int .i64 (z1))))) e7
        show _ ∧ _
        exact ⟨.inr rfl, .done ⟨_, [], [], _, .one (c := .d (.v (.int .i64 (k + 2 * (a.length : Int))))) (hc8) .nil, .cons (Reads.d _).gives .nil, nodupB_ok rfl, by simp, (by simp)⟩⟩
      · have c1 := (by simpa using c1 : ((a.getD j default).lo) = (k + 2 * (j : Int)))
        refine .skip ?_
        refine .seq ?_
        refine .reg (X := Unit) (fun ζ => .of [(0, .one (.d (.sl false 97 2 (List.map Iv.c (a))))), (1, .one (.d (.v (.int .i64 (IntKind.wrap .i64 ((k + 2 * (j : Int)) + 1)))))), (5, .one (.d (.v (.int .i64 ((j : Int))))))] []) [⟨[1], some 19, [], []⟩, ⟨[19], some 20, [], []⟩, ⟨[20], some 1, [], []⟩] (fun k9 => ?_) ?_
        · skip
          refine .move (.no rfl) rfl rfl rfl rfl ?_
          refine .bin (.no rfl) rfl rfl rfl rfl rfl rfl ?_
          refine .assign (.no rfl) rfl rfl rfl rfl ?_
          exact .fin () (.of (.cons rfl (.cons rfl (.cons rfl .nil))) .nil)
        intro _
        refine .seq ?_
        refine .seq ?_
        refine .reg (X := Unit) (fun ζ => .of [(0, .one (.d (.sl false 97 2 (List.map Iv.c (a))))), (1, .one (.d (.v (.int .i64 (IntKind.wrap .i64 ((k + 2 * (j : Int)) + 1)))))), (5, .one (.d (.v (.int .i64 ((j : Int)))))), (27, .one (.d (.v (.bool (((a.getD j default).hi) != (IntKind.wrap .i64 ((k + 2 * (j : Int)) + 1)))))))] []) [⟨[0], some 21, [], []⟩, ⟨[5], some 22, [], []⟩, ⟨[21, 22], some 23, [], []⟩, ⟨[23], some 24, [], []⟩, ⟨[24], some 25, [], []⟩, ⟨[1], some 26, [], []⟩, ⟨[25, 26], some 27, [], []⟩] (fun k10 => ?_) ?_
        · skip
          refine .move (.no rfl) rfl rfl rfl rfl ?_
          refine .move (.no rfl) rfl rfl rfl rfl ?_
          refine .indexAddr (.no rfl) rfl (j) t42 rfl t97 rfl rfl rfl (.d _ _) rfl rfl rfl (map_get (by omega)) rfl rfl ?_
          refine .fieldAddr (.no rfl) rfl t97 rfl rfl t2 rfl rfl rfl rfl [] (by simp) (by intro _ _ _ h; cases h) rfl rfl ?_
          refine .load (.no rfl) rfl t2 rfl rfl (.d _) rfl rfl rfl rfl ?_
          refine .move (.no rfl) rfl rfl rfl rfl ?_
          refine .bin (.no rfl) rfl rfl rfl rfl rfl rfl ?_
          exact .fin () (.of (.cons rfl (.cons rfl (.cons rfl (.cons rfl .nil)))) .nil)
        intro _
        refine .cond (t := ((a.getD j default).hi) != (IntKind.wrap .i64 ((k + 2 * (j : Int)) + 1))) rfl (fun c2 => ?_) (fun c2 => ?_)
        · have c2 := (by simpa using c2 : ¬ (((a.getD j default).hi) = (IntKind.wrap .i64 ((k + 2 * (j : Int)) + 1))))
          refine .seq ?_
          refine .reg (X := Unit) (fun ζ => .of [(4, .one (.d (.v (.int .i64 (-1)))))] []) [⟨[], some 4, [], []⟩] (fun k11 => ?_) ?_
          · skip
            refine .assign (.no rfl) rfl rfl rfl rfl ?_
            exact .fin () (.of (.cons rfl .nil) .nil)
          intro _
          refine .ret ?_
          have e12 : (-1) = (k + 2 * (a.length : Int)) := by (have h9 := hm j (by omega); rw [wrap_le (by omega) (by omega)] at c2; rw [h9] at c2; simp [mIv] at c2)
          have hc13 := eq1 (fun z1 => SV.one (.d (.v (.int .i64 (z1))))) e12
          show _ ∧ _
          exact ⟨.inr rfl, .done ⟨_, [], [], _, .one (c := .d (.v (.int .i64 (k + 2 * (a.length : Int))))) (hc13) .nil, .cons (Reads.d _).gives .nil, nodupB_ok rfl, by simp, (by simp)⟩⟩
        · have c2 := (by simpa using c2 : ((a.getD j default).hi) = (IntKind.wrap .i64 ((k + 2 * (j : Int)) + 1)))
          refine .skip ?_
          refine .reg (X := Unit) (fun ζ => .of [(0, .one (.d (.sl false 97 2 (List.map Iv.c (a))))), (1, .one (.d (.v (.int .i64 (IntKind.wrap .i64 ((IntKind.wrap .i64 ((k + 2 * (j : Int)) + 1)) + 1)))))), (5, .one (.d (.v (.int .i64 ((j : Int))))))] []) [⟨[1], some 28, [], []⟩, ⟨[28], some 29, [], []⟩, ⟨[29], some 1, [], []⟩] (fun k14 => ?_) ?_
          · skip
            refine .move (.no rfl) rfl rfl rfl rfl ?_
            refine .bin (.no rfl) rfl rfl rfl rfl rfl rfl ?_
            refine .assign (.no rfl) rfl rfl rfl rfl ?_
            exact .fin () (.of (.cons rfl (.cons rfl (.cons rfl .nil))) .nil)
          intro _
          refine .reg (X := Unit) (fun ζ => .of [(0, .one (.d (.sl false 97 2 (List.map Iv.c (a))))), (1, .one (.d (.v (.int .i64 (IntKind.wrap .i64 ((IntKind.wrap .i64 ((k + 2 * (j : Int)) + 1)) + 1)))))), (5, .one (.d (.v (.int .i64 (IntKind.wrap .i64 ((j : Int) + 1))))))] []) [⟨[5], some 10, [], []⟩, ⟨[10], some 11, [], []⟩, ⟨[11], some 5, [], []⟩] (fun k15 => ?_) ?_
          · skip
            refine .move (.no rfl) rfl rfl rfl rfl ?_
            refine .bin (.no rfl) rfl rfl rfl rfl rfl rfl ?_
            refine .assign (.no rfl) rfl rfl rfl rfl ?_
            exact .fin () (.of (.cons rfl (.cons rfl (.cons rfl .nil))) .nil)
          intro _
          exact .here (j + 1) (.of (.cons rfl (.cons (svI (show (IntKind.wrap .i64 ((IntKind.wrap .i64 ((k + 2 * (j : Int)) + 1)) + 1)) = (k + 2 * ((j + 1) : Int)) by first | omega | exact wrap_le (by omega) (by omega) | (rw [wrap_le (by omega) (by omega)]; omega) | (rw [wrap_le (a := k + 2 * (j : Int) + 1) (by omega) (by omega), wrap_le (by omega) (by omega)]; omega))) (.cons (svI (show (IntKind.wrap .i64 ((j : Int) + 1)) = (((j + 1) : Int)) by first | omega | exact wrap_le (by omega) (by omega) | (rw [wrap_le (by omega) (by omega)]; omega) | (rw [wrap_le (a := k + 2 * (j : Int) + 1) (by omega) (by omega), wrap_le (by omega) (by omega)]; omega))) .nil))) .nil) ⟨(show (j + 1) ≤ a.length by omega), (show a.length - (j + 1) < a.length - j by omega)⟩
    · have c0 := of_decide_eq_false c0
      refine .exit ?_
      refine .seq ?_
      refine .reg (X := Unit) (fun ζ => .of [(4, .one (.d (.v (.int .i64 (k + 2 * (j : Int))))))] []) [⟨[1], some 30, [], []⟩, ⟨[30], some 4, [], []⟩] (fun k16 => ?_) ?_
      · skip
        refine .move (.no rfl) rfl rfl rfl rfl ?_
        refine .assign (.no rfl) rfl rfl rfl rfl ?_
        exact .fin () (.of (.cons rfl .nil) .nil)
      intro _
      refine .ret ?_
      have e17 : (k + 2 * (j : Int)) = (k + 2 * (a.length : Int)) := by omega
      have hc18 := eq1 (fun z1 => SV.one (.d (.v (.int .i64 (z1))))) e17
      show _ ∧ _
      exact ⟨.inr rfl, .done ⟨_, [], [], _, .one (c := .d (.v (.int .i64 (k + 2 * (a.length : Int))))) (hc18) .nil, .cons (Reads.d _).gives .nil, nodupB_ok rfl, by simp, (by simp)⟩⟩
end Go.Proofs

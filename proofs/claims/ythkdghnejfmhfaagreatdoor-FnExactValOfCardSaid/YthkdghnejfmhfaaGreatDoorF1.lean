/- Contracts of the program's functions at this seat, printed by a program of ours and checked by Lean: each under the conditions of its own statement. -/
import Derived.Test.YthkdghnejfmhfaaGreatDoorE4
import Derived.Test.YthkdghnejfmhfaaGreatDoorProg
import Derived.Test.YthkdghnejfmhfaaGreatDoorShelf
set_option linter.all false
set_option linter.unnecessarySimpa false
set_option linter.unusedSectionVars false
set_option linter.unusedSimpArgs false
set_option linter.unusedVariables false
namespace Go.Proofs
theorem Y.{u} {α : Sort u} {a : α} : a = a := rfl
open Go Go.Proofs Go.Ev
instance:Lay:=⟨[(0,(List.range 256).map fun c=>.v (.int .u8 (if Lib.isSp (UInt8.ofNat c) then 1 else 0)))]⟩

def strc (x:ByteArray):List D:=[.v (.string x)]
theorem strc_e (x:ByteArray):(strc x).map D.erase=strc x:=by simp [strc,D.erase_v]
theorem strc_o (x:ByteArray):∀ d∈strc x,Owned d:=by simp [strc,Owned.v]
def Arr.c (x:Arr):List D:=[.v (.string (x.name)),.v (.int .i64 (x.size))]
theorem Arr.c_o (x:Arr):∀ d∈Arr.c x,Owned d:=by simp [Arr.c,Owned.v]
theorem Arr.c_e (x:Arr):(Arr.c x).map D.erase=Arr.c x:=by simp [Arr.c,D.erase_v]
def Decl.c25 (x:Decl):List D:=[.sl false 9 1 (List.map strc (x.vars)),.sl false 9 1 (List.map strc (x.flags)),.sl false 114 2 (List.map Arr.c (x.arrays))]
theorem Decl.c25_e (x:Decl):(Decl.c25 x).map D.erase=Decl.c25 x:=by simp [Decl.c25,D.erase_v,erase_slo _ _ _ _ _ _ strc_e,erase_slo _ _ _ _ _ _ Arr.c_e]
def Decl.co25 (x:Decl):List D:=[.sl true 9 1 (List.map strc (x.vars)),.sl true 9 1 (List.map strc (x.flags)),.sl true 114 2 (List.map Arr.c (x.arrays))]
theorem Decl.co25_e (x:Decl):(Decl.co25 x).map D.erase=Decl.c25 x:=by simp [Decl.co25,Decl.c25,D.erase_v,erase_slo _ _ _ _ _ _ strc_e,erase_slo _ _ _ _ _ _ Arr.c_e]
theorem Decl.co25_o (x:Decl):∀ d∈Decl.co25 x,Owned d:=by simp [Decl.co25,Owned.v,Owned.map _ _ _ _ strc_o,Owned.map _ _ _ _ Arr.c_o]
def Iv.c (x:Iv):List D:=[.v (.int .i64 (x.lo)),.v (.int .i64 (x.hi))]
theorem Iv.c_o (x:Iv):∀ d∈Iv.c x,Owned d:=by simp [Iv.c,Owned.v]
theorem Iv.c_e (x:Iv):(Iv.c x).map D.erase=Iv.c x:=by simp [Iv.c,D.erase_v]
def Env.c29 (x:Env):List D:=[.v (.bool (x.live)),.sl false 124 2 (List.map Iv.c (x.ints)),.sl false 124 2 (List.map Iv.c (x.arrs))]
theorem Env.c29_e (x:Env):(Env.c29 x).map D.erase=Env.c29 x:=by simp [Env.c29,D.erase_v,erase_slo _ _ _ _ _ _ Iv.c_e]
def Env.co29 (x:Env):List D:=[.v (.bool (x.live)),.sl true 124 2 (List.map Iv.c (x.ints)),.sl true 124 2 (List.map Iv.c (x.arrs))]
theorem Env.co29_e (x:Env):(Env.co29 x).map D.erase=Env.c29 x:=by simp [Env.co29,Env.c29,D.erase_v,erase_slo _ _ _ _ _ _ Iv.c_e]
theorem Env.co29_o (x:Env):∀ d∈Env.co29 x,Owned d:=by simp [Env.co29,Owned.v,Owned.map _ _ _ _ Iv.c_o]
def Env.c46 (x:Env):List D:=[.v (.bool (x.live)),.sl false 34 2 (List.map Iv.c (x.ints)),.sl false 34 2 (List.map Iv.c (x.arrs))]
theorem Env.c46_e (x:Env):(Env.c46 x).map D.erase=Env.c46 x:=by simp [Env.c46,D.erase_v,erase_slo _ _ _ _ _ _ Iv.c_e]
def Env.co46 (x:Env):List D:=[.v (.bool (x.live)),.sl true 34 2 (List.map Iv.c (x.ints)),.sl true 34 2 (List.map Iv.c (x.arrs))]
theorem Env.co46_e (x:Env):(Env.co46 x).map D.erase=Env.c46 x:=by simp [Env.co46,Env.c46,D.erase_v,erase_slo _ _ _ _ _ _ Iv.c_e]
theorem Env.co46_o (x:Env):∀ d∈Env.co46 x,Owned d:=by simp [Env.co46,Owned.v,Owned.map _ _ _ _ Iv.c_o]
def Decl.c40 (x:Decl):List D:=[.sl false 9 1 (List.map strc (x.vars)),.sl false 9 1 (List.map strc (x.flags)),.sl false 120 2 (List.map Arr.c (x.arrays))]
theorem Decl.c40_e (x:Decl):(Decl.c40 x).map D.erase=Decl.c40 x:=by simp [Decl.c40,D.erase_v,erase_slo _ _ _ _ _ _ strc_e,erase_slo _ _ _ _ _ _ Arr.c_e]
def Decl.co40 (x:Decl):List D:=[.sl true 9 1 (List.map strc (x.vars)),.sl true 9 1 (List.map strc (x.flags)),.sl true 120 2 (List.map Arr.c (x.arrays))]
theorem Decl.co40_e (x:Decl):(Decl.co40 x).map D.erase=Decl.c40 x:=by simp [Decl.co40,Decl.c40,D.erase_v,erase_slo _ _ _ _ _ _ strc_e,erase_slo _ _ _ _ _ _ Arr.c_e]
theorem Decl.co40_o (x:Decl):∀ d∈Decl.co40 x,Owned d:=by simp [Decl.co40,Owned.v,Owned.map _ _ _ _ strc_o,Owned.map _ _ _ _ Arr.c_o]
def i2:TI:=⟨.int .i64,1,8,[.int .i64 0]⟩
theorem t2:TyOk Tryz.prog 2 i2:=⟨Tryz.underlying2,by kernel_rfl⟩
theorem z2:ZOk Tryz.prog 2 i2:=⟨t2,rfl⟩
def i4:TI:=⟨.bool,1,1,[.bool false]⟩
theorem t4:TyOk Tryz.prog 4 i4:=⟨Tryz.underlying4,by kernel_rfl⟩
theorem z4:ZOk Tryz.prog 4 i4:=⟨t4,rfl⟩
def i9:TI:=⟨.str,1,16,[.string .empty]⟩
theorem t9:TyOk Tryz.prog 9 i9:=⟨Tryz.underlying9,by kernel_rfl⟩
theorem z9:ZOk Tryz.prog 9 i9:=⟨t9,rfl⟩
def i22:TI:=⟨.sl 9,1,24,[.slice none 0 0]⟩
theorem t22:TyOk Tryz.prog 22 i22:=⟨Tryz.underlying22,by kernel_rfl⟩
theorem z22:ZOk Tryz.prog 22 i22:=⟨t22,rfl⟩
def i23:TI:=⟨.sl 114,1,24,[.slice none 0 0]⟩
theorem t23:TyOk Tryz.prog 23 i23:=⟨Tryz.underlying23,by kernel_rfl⟩
theorem z23:ZOk Tryz.prog 23 i23:=⟨t23,rfl⟩
def i25:TI:=⟨.st [(0,22),(1,22),(2,23)],3,72,[.slice none 0 0,.slice none 0 0,.slice none 0 0]⟩
theorem t25:TyOk Tryz.prog 25 i25:=⟨⟨_,Tryz.underlying25,rfl⟩,by kernel_rfl⟩
theorem z25:ZOk Tryz.prog 25 i25:=⟨t25,rfl⟩
theorem p25:Places Tryz.prog [(0,22),(1,22),(2,23)] [(0,1),(1,1),(2,1)]:=by unfold Places; kernel_rfl
def i27:TI:=⟨.sl 124,1,24,[.slice none 0 0]⟩
theorem t27:TyOk Tryz.prog 27 i27:=⟨Tryz.underlying27,by kernel_rfl⟩
theorem z27:ZOk Tryz.prog 27 i27:=⟨t27,rfl⟩
def i29:TI:=⟨.st [(0,4),(1,27),(2,27)],3,56,[.bool false,.slice none 0 0,.slice none 0 0]⟩
theorem t29:TyOk Tryz.prog 29 i29:=⟨⟨_,Tryz.underlying29,rfl⟩,by kernel_rfl⟩
theorem z29:ZOk Tryz.prog 29 i29:=⟨t29,rfl⟩
theorem p29:Places Tryz.prog [(0,4),(1,27),(2,27)] [(0,1),(1,1),(2,1)]:=by unfold Places; kernel_rfl
def i34:TI:=⟨.st [(0,2),(1,2)],2,16,[.int .i64 0,.int .i64 0]⟩
theorem t34:TyOk Tryz.prog 34 i34:=⟨⟨_,Tryz.underlying34,rfl⟩,by kernel_rfl⟩
theorem z34:ZOk Tryz.prog 34 i34:=⟨t34,rfl⟩
theorem p34:Places Tryz.prog [(0,2),(1,2)] [(0,1),(1,1)]:=by unfold Places; kernel_rfl
def i38:TI:=⟨.sl 120,1,24,[.slice none 0 0]⟩
theorem t38:TyOk Tryz.prog 38 i38:=⟨Tryz.underlying38,by kernel_rfl⟩
theorem z38:ZOk Tryz.prog 38 i38:=⟨t38,rfl⟩
def i40:TI:=⟨.st [(0,22),(1,22),(2,38)],3,72,[.slice none 0 0,.slice none 0 0,.slice none 0 0]⟩
theorem t40:TyOk Tryz.prog 40 i40:=⟨⟨_,Tryz.underlying40,rfl⟩,by kernel_rfl⟩
theorem z40:ZOk Tryz.prog 40 i40:=⟨t40,rfl⟩
theorem p40:Places Tryz.prog [(0,22),(1,22),(2,38)] [(0,1),(1,1),(2,1)]:=by unfold Places; kernel_rfl
def i44:TI:=⟨.sl 34,1,24,[.slice none 0 0]⟩
theorem t44:TyOk Tryz.prog 44 i44:=⟨Tryz.underlying44,by kernel_rfl⟩
theorem z44:ZOk Tryz.prog 44 i44:=⟨t44,rfl⟩
def i46:TI:=⟨.st [(0,4),(1,44),(2,44)],3,56,[.bool false,.slice none 0 0,.slice none 0 0]⟩
theorem t46:TyOk Tryz.prog 46 i46:=⟨⟨_,Tryz.underlying46,rfl⟩,by kernel_rfl⟩
theorem z46:ZOk Tryz.prog 46 i46:=⟨t46,rfl⟩
theorem p46:Places Tryz.prog [(0,4),(1,44),(2,44)] [(0,1),(1,1),(2,1)]:=by unfold Places; kernel_rfl
def i114:TI:=⟨.st [(0,9),(1,2)],2,24,[.string .empty,.int .i64 0]⟩
theorem t114:TyOk Tryz.prog 114 i114:=⟨⟨_,Tryz.underlying114,rfl⟩,by kernel_rfl⟩
theorem z114:ZOk Tryz.prog 114 i114:=⟨t114,rfl⟩
theorem p114:Places Tryz.prog [(0,9),(1,2)] [(0,1),(1,1)]:=by unfold Places; kernel_rfl
def i120:TI:=⟨.st [(0,9),(1,2)],2,24,[.string .empty,.int .i64 0]⟩
theorem t120:TyOk Tryz.prog 120 i120:=⟨⟨_,Tryz.underlying120,rfl⟩,by kernel_rfl⟩
theorem z120:ZOk Tryz.prog 120 i120:=⟨t120,rfl⟩
theorem p120:Places Tryz.prog [(0,9),(1,2)] [(0,1),(1,1)]:=by unfold Places; kernel_rfl
def i124:TI:=⟨.st [(0,2),(1,2)],2,16,[.int .i64 0,.int .i64 0]⟩
theorem t124:TyOk Tryz.prog 124 i124:=⟨⟨_,Tryz.underlying124,rfl⟩,by kernel_rfl⟩
theorem z124:ZOk Tryz.prog 124 i124:=⟨t124,rfl⟩
theorem p124:Places Tryz.prog [(0,2),(1,2)] [(0,1),(1,1)]:=by unfold Places; kernel_rfl
theorem c_szStringS (a:List ByteArray) (left:Int) (hl:0≤left∧left≤1048576) (hw:∀ x∈a,0≤strW x∧strW x≤9223372036854775807):Trip Tryz.prog 25 [(false,1),(false,1)] ([.sl false 9 1 (List.map strc (a))]++[.v (.int .i64 (left))]) [(false,1)] [.v (.int .i64 (szL strW a left))] []:=by
 refine Trip.of Tryz.func25 (by decide) (c:=_) Y Y (Nat.le_of_ble_eq_true Y) Y (AftOk.nil _)<|.sl (t:=0) Y fun hs1l=>.seq<|.rs fun k2=>.as Y<|.z<|.seq<|.rs fun k3=>.mv Y ?_
 refine .mv Y<|.g (fun _ τ=>⟨_,.len (.no Y) Y (z:=(a.length:Int)) t22 Y Y Y (.d _ _) (map_len _ _) Y τ⟩)<|.bi Y<|.as Y<|.z<|.seq<|.seq<|.rs fun k4=>.mv Y ?_
 refine .bi Y<|.z ?_
 refine .cond (t:=decide ((IntKind.wrap .i64 (left - (a.length:Int))) < 0)) Y (fun c0=>?_) (fun c0=>?_)
 ·have c0:=of_decide_eq_true c0
  refine .seq<|.rs fun k5=>.as Y<|.z<|.ret ?_
  exact fin0 (.inr Y) (.one (svI (show (-1)=(szL strW a left) by (rw [wrap_le (by omega) (by omega)] at c0; simp only [szL]; rw [if_pos c0]))) .nil) (.dd .nil) Y
 ·have c0:=of_decide_eq_false c0
  refine .skip<|.seq<|.seq<|.rs fun k7=>.as Y<|.z<|.block ?_
  refine .loop (X:=Nat × Int) (fun ζ=>.of [(0,.one (.d (.sl false 9 1 (List.map strc (a))))),(1,.one (.d (.v (.int .i64 (ζ.2))))),(5,.one (.d (.v (.int .i64 ((ζ.1:Int))))))] []) (fun ζ=>ζ.1≤a.length∧0≤ζ.2∧ζ.2≤1048576∧¬ left - a.length < 0∧szGo strW ζ.2 (a.drop ζ.1)=szGo strW (left - a.length) a) (fun ζ=>a.length - ζ.1) ?_ ?_
  ·skip
   exact .here (0,(left - a.length)) (.of (.cons Y (.cons (svI (show (IntKind.wrap .i64 (left - (a.length:Int)))=((left - a.length)) by first | rfl | omega | exact wrap_le (by omega) (by omega) | (rw [wrap_le (by omega) (by omega)]; omega) | (have hx:0≤strW (a.getD j default)∧strW (a.getD j default)≤9223372036854775807:=hw _ (getD_mem (by omega)); exact wrap_le (a:=v - strW (a.getD j default)) (by omega) (by omega)))) (.cons (svI (show (0)=((0:Int)) by first | rfl | omega | exact wrap_le (by omega) (by omega) | (rw [wrap_le (by omega) (by omega)]; omega) | (have hx:0≤strW (a.getD j default)∧strW (a.getD j default)≤9223372036854775807:=hw _ (getD_mem (by omega)); exact wrap_le (a:=v - strW (a.getD j default)) (by omega) (by omega)))) .nil))) .nil) (show 0≤a.length∧0≤(left - a.length)∧(left - a.length)≤1048576∧¬ left - a.length < 0∧szGo strW (left - a.length) (a.drop 0)=szGo strW (left - a.length) a by (rw [wrap_le (by omega) (by omega)] at c0; exact ⟨by omega,by omega,by omega,c0,by simp⟩))
  ·rintro ⟨j,v⟩ hI
   have hI:j≤a.length∧0≤v∧v≤1048576∧¬ left - a.length < 0∧szGo strW v (a.drop j)=szGo strW (left - a.length) a:=hI
   dsimp only
   refine .seq<|.seq<|.rs fun k8=>.mv Y<|.mv Y<|.g (fun _ τ=>⟨_,.len (.no Y) Y (z:=(a.length:Int)) t22 Y Y Y (.d _ _) (map_len _ _) Y τ⟩)<|.bi Y<|.z ?_
   refine .cond (t:=decide ((j:Int) < (a.length:Int))) Y (fun c1=>?_) (fun c1=>?_)
   ·have c1:=of_decide_eq_true c1
    refine .skip<|.seq<|.block<|.seq<|.rs fun k9=>.mv Y<|.mv Y<|.mv Y<|.g (fun _ τ=>⟨_,.indexAddr (.no Y) Y (j) t22 Y t9 Y Y Y (.d _ _) Y Y Y (map_get (by omega)) Y Y τ⟩) ?_
    refine .ld t9 Y (.d _) Y<|.g (fun _ τ=>⟨_,.lenStr (.no Y) Y t9 Y Y Y Y Y τ⟩)<|.bi Y<|.as Y<|.z<|.seq<|.rs fun k10=>.mv Y<|.bi Y ?_
    refine .z ?_
    refine .cond (t:=decide ((IntKind.wrap .i64 (v - ((a.getD j default).size:Int))) < 0)) Y (fun c2=>?_) (fun c2=>?_)
    ·have c2:=of_decide_eq_true c2
     refine .seq<|.rs fun k11=>.as Y<|.z<|.ret ?_
     exact fin0 (.inr Y) (.one (svI (show (-1)=(szL strW a left) by (have hx:0≤strW (a.getD j default)∧strW (a.getD j default)≤9223372036854775807:=hw _ (getD_mem (by omega)); change IntKind.wrap .i64 (v - strW (a.getD j default)) < 0 at c2; rw [wrap_le (by omega) (by omega)] at c2; simp only [szL]; rw [if_neg hI.2.2.2.1,← hI.2.2.2.2,szGo_fail (by omega) c2]))) .nil) (.dd .nil) Y
    ·have c2:=of_decide_eq_false c2
     refine .skip<|.rs fun k13=>.mv Y<|.bi Y<|.as Y<|.z ?_
     exact .here ((j+1),(v - strW (a.getD j default))) (.of (.cons Y (.cons (svI (show (IntKind.wrap .i64 (v - ((a.getD j default).size:Int)))=((v - strW (a.getD j default))) by first | rfl | omega | exact wrap_le (by omega) (by omega) | (rw [wrap_le (by omega) (by omega)]; omega) | (have hx:0≤strW (a.getD j default)∧strW (a.getD j default)≤9223372036854775807:=hw _ (getD_mem (by omega)); exact wrap_le (a:=v - strW (a.getD j default)) (by omega) (by omega)))) (.cons (svI (show (IntKind.wrap .i64 ((j:Int)+1))=(((j+1):Int)) by first | rfl | omega | exact wrap_le (by omega) (by omega) | (rw [wrap_le (by omega) (by omega)]; omega) | (have hx:0≤strW (a.getD j default)∧strW (a.getD j default)≤9223372036854775807:=hw _ (getD_mem (by omega)); exact wrap_le (a:=v - strW (a.getD j default)) (by omega) (by omega)))) .nil))) .nil) ⟨(show (j+1)≤a.length∧0≤(v - strW (a.getD j default))∧(v - strW (a.getD j default))≤1048576∧¬ left - a.length < 0∧szGo strW (v - strW (a.getD j default)) (a.drop (j+1))=szGo strW (left - a.length) a by (have hx:0≤strW (a.getD j default)∧strW (a.getD j default)≤9223372036854775807:=hw _ (getD_mem (by omega)); change ¬ IntKind.wrap .i64 (v - strW (a.getD j default)) < 0 at c2; rw [wrap_le (by omega) (by omega)] at c2; exact ⟨by omega,by omega,by omega,hI.2.2.2.1,by rw [← hI.2.2.2.2]; exact (szGo_step (by omega) c2).symm⟩)),(show a.length - (j+1) < a.length - j by omega)⟩
   ·have c1:=of_decide_eq_false c1
    refine .exit<|.seq<|.rs fun k14=>.mv Y<|.as Y<|.z<|.ret ?_
    exact fin0 (.inr Y) (.one (svI (show (v)=(szL strW a left) by (simp only [szL]; rw [if_neg hI.2.2.2.1,← hI.2.2.2.2,szGo_end (by omega)]))) .nil) (.dd .nil) Y
theorem c_szArr (a:Arr) (left:Int) (hl:0≤left∧left≤1048576) (hw:a.name.size≤9223372036854775807):Trip Tryz.prog 62 [(true,2),(false,1)] (Arr.c a++[.v (.int .i64 (left))]) [(false,1)] [.v (.int .i64 (szA a left))] []:=by
 refine Trip.of Tryz.func62 (by decide) (c:=_) Y Y (Nat.le_of_ble_eq_true Y) Y (AftOk.nil _)<|.seq<|.rs fun k1=>.g (fun _ τ=>⟨_,.box (.no Y) Y Y Y Y Y τ⟩)<|.as Y<|.z<|.seq<|.rs fun k2=>.mv Y ?_
 refine .fp t114 t9 Y<|.ld t9 Y (.ptr _ _ _ _ _ Y) Y<|.g (fun _ τ=>⟨_,.lenStr (.no Y) Y t9 Y Y Y Y Y τ⟩)<|.bi Y<|.as Y<|.z<|.seq<|.seq<|.rs fun k3=>?_
 refine .mv Y<|.bi Y<|.z ?_
 refine .cond (t:=decide ((IntKind.wrap .i64 (left - (a.name.size:Int))) < 0)) Y (fun c0=>?_) (fun c0=>?_)
 ·have c0:=of_decide_eq_true c0
  refine .seq<|.rs fun k4=>.as Y<|.z<|.ret ?_
  exact fin0 (.inr Y) (.one (svI (show (-1)=(szA a left) by (rw [wrap_le (by omega) (by omega)] at c0; simp only [szA]; rw [if_pos c0]))) .nil) (.dd .nil) Y
 ·have c0:=of_decide_eq_false c0
  refine .skip<|.seq<|.rs fun k6=>.mv Y<|.as Y<|.z<|.ret ?_
  exact fin0 (.inr Y) (.one (svI (show (IntKind.wrap .i64 (left - (a.name.size:Int)))=(szA a left) by (rw [wrap_le (by omega) (by omega)] at c0 ⊢; simp only [szA]; rw [if_neg c0]))) .nil) (.dd .nil) Y
theorem c_szArrS (a:List Arr) (left:Int) (hl:0≤left∧left≤1048576) (hw:∀ x∈a,0≤arrW x∧arrW x≤9223372036854775807):Trip Tryz.prog 26 [(false,1),(false,1)] ([.sl false 114 2 (List.map Arr.c (a))]++[.v (.int .i64 (left))]) [(false,1)] [.v (.int .i64 (szL arrW a left))] []:=by
 refine Trip.of Tryz.func26 (by decide) (c:=_) Y Y (Nat.le_of_ble_eq_true Y) Y (AftOk.nil _)<|.sl (t:=0) Y fun hs1l=>.seq<|.rs fun k2=>.as Y<|.z<|.seq<|.rs fun k3=>.mv Y ?_
 refine .mv Y<|.g (fun _ τ=>⟨_,.len (.no Y) Y (z:=(a.length:Int)) t23 Y Y Y (.d _ _) (map_len _ _) Y τ⟩)<|.bi Y<|.as Y<|.z<|.seq<|.seq<|.rs fun k4=>.mv Y ?_
 refine .bi Y<|.z ?_
 refine .cond (t:=decide ((IntKind.wrap .i64 (left - (a.length:Int))) < 0)) Y (fun c0=>?_) (fun c0=>?_)
 ·have c0:=of_decide_eq_true c0
  refine .seq<|.rs fun k5=>.as Y<|.z<|.ret ?_
  exact fin0 (.inr Y) (.one (svI (show (-1)=(szL arrW a left) by (rw [wrap_le (by omega) (by omega)] at c0; simp only [szL]; rw [if_pos c0]))) .nil) (.dd .nil) Y
 ·have c0:=of_decide_eq_false c0
  refine .skip<|.seq<|.seq<|.rs fun k7=>.as Y<|.z<|.block ?_
  refine .loop (X:=Nat × Int) (fun ζ=>.of [(0,.one (.d (.sl false 114 2 (List.map Arr.c (a))))),(1,.one (.d (.v (.int .i64 (ζ.2))))),(5,.one (.d (.v (.int .i64 ((ζ.1:Int))))))] []) (fun ζ=>ζ.1≤a.length∧0≤ζ.2∧ζ.2≤1048576∧¬ left - a.length < 0∧szGo arrW ζ.2 (a.drop ζ.1)=szGo arrW (left - a.length) a) (fun ζ=>a.length - ζ.1) ?_ ?_
  ·skip
   exact .here (0,(left - a.length)) (.of (.cons Y (.cons (svI (show (IntKind.wrap .i64 (left - (a.length:Int)))=((left - a.length)) by first | rfl | omega | exact wrap_le (by omega) (by omega) | (rw [wrap_le (by omega) (by omega)]; omega) | (rw [szA_neg] at c2; simp only [szA,arrW] at c2 ⊢; rw [if_neg c2]))) (.cons (svI (show (0)=((0:Int)) by first | rfl | omega | exact wrap_le (by omega) (by omega) | (rw [wrap_le (by omega) (by omega)]; omega) | (rw [szA_neg] at c2; simp only [szA,arrW] at c2 ⊢; rw [if_neg c2]))) .nil))) .nil) (show 0≤a.length∧0≤(left - a.length)∧(left - a.length)≤1048576∧¬ left - a.length < 0∧szGo arrW (left - a.length) (a.drop 0)=szGo arrW (left - a.length) a by (rw [wrap_le (by omega) (by omega)] at c0; exact ⟨by omega,by omega,by omega,c0,by simp⟩))
  ·rintro ⟨j,v⟩ hI
   have hI:j≤a.length∧0≤v∧v≤1048576∧¬ left - a.length < 0∧szGo arrW v (a.drop j)=szGo arrW (left - a.length) a:=hI
   dsimp only
   refine .seq<|.seq<|.rs fun k8=>.mv Y<|.mv Y<|.g (fun _ τ=>⟨_,.len (.no Y) Y (z:=(a.length:Int)) t23 Y Y Y (.d _ _) (map_len _ _) Y τ⟩)<|.bi Y<|.z ?_
   refine .cond (t:=decide ((j:Int) < (a.length:Int))) Y (fun c1=>?_) (fun c1=>?_)
   ·have c1:=of_decide_eq_true c1
    refine .skip<|.seq<|.block<|.seq<|.rs fun k9=>.mv Y<|.mv Y<|.g (fun _ τ=>⟨_,.indexAddr (.no Y) Y (j) t23 Y t114 Y Y Y (.d _ _) Y Y Y (map_get (by omega)) Y Y τ⟩)<|.lda t114 Y (.d _) Y ?_
    refine .mv Y<|.c0 (c_szArr (a.getD j default) v (by first | exact ⟨hI.2.1,hI.2.2.1⟩ | (have hx:=(hw _ (getD_mem (j:=j) (by omega))).2; simp only [arrW] at hx; omega)) (by first | exact ⟨hI.2.1,hI.2.2.1⟩ | (have hx:=(hw _ (getD_mem (j:=j) (by omega))).2; simp only [arrW] at hx; omega))) Y (.dd (.dd (.dd .nil))) (.own [23,0] .nil) Y<|.as Y<|.z<|.seq<|.rs fun k10=>.mv Y<|.bi Y<|.z ?_
    refine .cond (t:=decide ((szA (a.getD j default) v) < 0)) Y (fun c2=>?_) (fun c2=>?_)
    ·have c2:=of_decide_eq_true c2
     refine .seq<|.rs fun k11=>.as Y<|.z<|.ret ?_
     exact fin0 (.inr Y) (.one (svI (show (-1)=(szL arrW a left) by (rw [szA_neg] at c2; simp only [szL]; rw [if_neg hI.2.2.2.1,← hI.2.2.2.2,szGo_fail (by omega) c2]))) .nil) (.dd .nil) Y
    ·have c2:=of_decide_eq_false c2
     refine .skip<|.rs fun k13=>.mv Y<|.bi Y<|.as Y<|.z ?_
     exact .here ((j+1),(v - arrW (a.getD j default))) (.of (.cons Y (.cons (svI (show (szA (a.getD j default) v)=((v - arrW (a.getD j default))) by first | rfl | omega | exact wrap_le (by omega) (by omega) | (rw [wrap_le (by omega) (by omega)]; omega) | (rw [szA_neg] at c2; simp only [szA,arrW] at c2 ⊢; rw [if_neg c2]))) (.cons (svI (show (IntKind.wrap .i64 ((j:Int)+1))=(((j+1):Int)) by first | rfl | omega | exact wrap_le (by omega) (by omega) | (rw [wrap_le (by omega) (by omega)]; omega) | (rw [szA_neg] at c2; simp only [szA,arrW] at c2 ⊢; rw [if_neg c2]))) .nil))) .nil) ⟨(show (j+1)≤a.length∧0≤(v - arrW (a.getD j default))∧(v - arrW (a.getD j default))≤1048576∧¬ left - a.length < 0∧szGo arrW (v - arrW (a.getD j default)) (a.drop (j+1))=szGo arrW (left - a.length) a by (have hx:0≤arrW (a.getD j default)∧arrW (a.getD j default)≤9223372036854775807:=hw _ (getD_mem (by omega)); rw [szA_neg] at c2; exact ⟨by omega,by omega,by omega,hI.2.2.2.1,by rw [← hI.2.2.2.2]; exact (szGo_step (by omega) c2).symm⟩)),(show a.length - (j+1) < a.length - j by omega)⟩
   ·have c1:=of_decide_eq_false c1
    refine .exit<|.seq<|.rs fun k14=>.mv Y<|.as Y<|.z<|.ret ?_
    exact fin0 (.inr Y) (.one (svI (show (v)=(szL arrW a left) by (simp only [szL]; rw [if_neg hI.2.2.2.1,← hI.2.2.2.2,szGo_end (by omega)]))) .nil) (.dd .nil) Y
theorem c_szDecl (a:Decl) (left:Int) (hl:0≤left∧left≤1048576) (hv:∀ x∈a.vars,0≤strW x∧strW x≤9223372036854775807) (hf:∀ x∈a.flags,0≤strW x∧strW x≤9223372036854775807) (ha:∀ x∈a.arrays,0≤arrW x∧arrW x≤9223372036854775807):Trip Tryz.prog 5 [(true,3),(false,1)] (Decl.c25 a++[.v (.int .i64 (left))]) [(false,1)] [.v (.int .i64 (szDecl a left))] []:=by
 refine Trip.of Tryz.func5 (by decide) (c:=_) Y Y (Nat.le_of_ble_eq_true Y) Y (AftOk.nil _)<|.sla (t:=0) 0 Y Y fun hs1l=>.sla (t:=0) 1 Y Y fun hs2l=>.sla (t:=0) 2 Y Y fun hs3l=>.seq<|.rs fun k4=>.g (fun _ τ=>⟨_,.box (.no Y) Y Y Y Y Y τ⟩)<|.as Y<|.z ?_
 refine .seq<|.rs fun k5=>.fp t25 t22 Y<|.ld t22 Y (.ptr _ _ _ _ _ Y) Y<|.mv Y<|.c0 (c_szStringS a.vars left (by first | assumption | exact ⟨by omega,szL_le (by omega) ‹_› (by first | omega | exact szL_le (by omega) ‹_› (by omega))⟩) (by first | assumption | exact ⟨by omega,szL_le (by omega) ‹_› (by first | omega | exact szL_le (by omega) ‹_› (by omega))⟩)) Y (.dd (.dd .nil)) (.own [8,0] .nil) Y<|.as Y<|.z<|.seq ?_
 refine .seq<|.rs fun k6=>.mv Y<|.bi Y<|.z ?_
 refine .cond (t:=decide ((szL strW a.vars left) < 0)) Y (fun c0=>?_) (fun c0=>?_)
 ·have c0:=of_decide_eq_true c0
  refine .seq<|.rs fun k7=>.as Y<|.z<|.ret ?_
  exact fin0 (.inr Y) (.one (svI (show (-1)=(szDecl a left) by (simp only [szDecl]; rw [if_pos c0]))) .nil) (.dd .nil) Y
 ·have c0:=of_decide_eq_false c0
  refine .skip<|.seq<|.rs fun k9=>.fp t25 t22 Y<|.ld t22 Y (.ptr _ _ _ _ _ Y) Y<|.mv Y<|.c0 (c_szStringS a.flags (szL strW a.vars left) (by first | assumption | exact ⟨by omega,szL_le (by omega) ‹_› (by first | omega | exact szL_le (by omega) ‹_› (by omega))⟩) (by first | assumption | exact ⟨by omega,szL_le (by omega) ‹_› (by first | omega | exact szL_le (by omega) ‹_› (by omega))⟩)) Y (.dd (.dd .nil)) (.own [14,0] .nil) Y<|.as Y<|.z ?_
  refine .seq<|.seq<|.rs fun k10=>.mv Y<|.bi Y<|.z ?_
  refine .cond (t:=decide ((szL strW a.flags (szL strW a.vars left)) < 0)) Y (fun c1=>?_) (fun c1=>?_)
  ·have c1:=of_decide_eq_true c1
   refine .seq<|.rs fun k11=>.as Y<|.z<|.ret ?_
   exact fin0 (.inr Y) (.one (svI (show (-1)=(szDecl a left) by (simp only [szDecl]; rw [if_neg c0,if_pos c1]))) .nil) (.dd .nil) Y
  ·have c1:=of_decide_eq_false c1
   refine .skip<|.seq<|.rs fun k13=>.fp t25 t23 Y<|.ld t23 Y (.ptr _ _ _ _ _ Y) Y<|.mv Y<|.c0 (c_szArrS a.arrays (szL strW a.flags (szL strW a.vars left)) (by first | assumption | exact ⟨by omega,szL_le (by omega) ‹_› (by first | omega | exact szL_le (by omega) ‹_› (by omega))⟩) (by first | assumption | exact ⟨by omega,szL_le (by omega) ‹_› (by first | omega | exact szL_le (by omega) ‹_› (by omega))⟩)) Y (.dd (.dd .nil)) (.own [20,0] .nil) Y<|.as Y<|.z ?_
   refine .seq<|.seq<|.rs fun k14=>.mv Y<|.bi Y<|.z ?_
   refine .cond (t:=decide ((szL arrW a.arrays (szL strW a.flags (szL strW a.vars left))) < 0)) Y (fun c2=>?_) (fun c2=>?_)
   ·have c2:=of_decide_eq_true c2
    refine .seq<|.rs fun k15=>.as Y<|.z<|.ret ?_
    exact fin0 (.inr Y) (.one (svI (show (-1)=(szDecl a left) by (simp only [szDecl]; rw [if_neg c0,if_neg c1,if_pos c2]))) .nil) (.dd .nil) Y
   ·have c2:=of_decide_eq_false c2
    refine .skip<|.seq<|.rs fun k17=>.mv Y<|.as Y<|.z<|.ret ?_
    exact fin0 (.inr Y) (.one (svI (show (szL arrW a.arrays (szL strW a.flags (szL strW a.vars left)))=(szDecl a left) by (simp only [szDecl]; rw [if_neg c0,if_neg c1,if_neg c2]))) .nil) (.dd .nil) Y
theorem c_szIntervalS (a:List Iv) (left:Int) (hl:0≤left∧left≤1048576):Trip Tryz.prog 27 [(false,1),(false,1)] ([.sl false 124 2 (List.map Iv.c (a))]++[.v (.int .i64 (left))]) [(false,1)] [.v (.int .i64 (szIvs a left))] []:=by
 refine Trip.of Tryz.func27 (by decide) (c:=_) Y Y (Nat.le_of_ble_eq_true Y) Y (AftOk.nil _)<|.sl (t:=0) Y fun hs1l=>.seq<|.rs fun k2=>.as Y<|.z<|.seq<|.rs fun k3=>.mv Y ?_
 refine .mv Y<|.g (fun _ τ=>⟨_,.len (.no Y) Y (z:=(a.length:Int)) t27 Y Y Y (.d _ _) (map_len _ _) Y τ⟩)<|.bi Y<|.as Y<|.z<|.seq<|.seq<|.rs fun k4=>.mv Y ?_
 refine .bi Y<|.z ?_
 refine .cond (t:=decide ((IntKind.wrap .i64 (left - (a.length:Int))) < 0)) Y (fun c0=>?_) (fun c0=>?_)
 ·have c0:=of_decide_eq_true c0
  refine .seq<|.rs fun k5=>.as Y<|.z<|.ret ?_
  exact fin0 (.inr Y) (.one (svI (show (-1)=(szIvs a left) by (rw [wrap_le (by omega) (by omega)] at c0; simp only [szIvs]; rw [if_pos c0]))) .nil) (.dd .nil) Y
 ·have c0:=of_decide_eq_false c0
  refine .skip<|.seq<|.rs fun k7=>.mv Y<|.as Y<|.z<|.ret ?_
  exact fin0 (.inr Y) (.one (svI (show (IntKind.wrap .i64 (left - (a.length:Int)))=(szIvs a left) by (rw [wrap_le (by omega) (by omega)] at c0 ⊢; simp only [szIvs]; rw [if_neg c0]))) .nil) (.dd .nil) Y
theorem c_szEnv (a:Env) (left:Int) (hl:0≤left∧left≤1048576):Trip Tryz.prog 7 [(true,3),(false,1)] (Env.c29 a++[.v (.int .i64 (left))]) [(false,1)] [.v (.int .i64 (szEnv a left))] []:=by
 refine Trip.of Tryz.func7 (by decide) (c:=_) Y Y (Nat.le_of_ble_eq_true Y) Y (AftOk.nil _)<|.sla (t:=0) 1 Y Y fun hs1l=>.sla (t:=0) 2 Y Y fun hs2l=>.seq<|.rs fun k3=>.g (fun _ τ=>⟨_,.box (.no Y) Y Y Y Y Y τ⟩)<|.as Y<|.z<|.seq ?_
 refine .rs fun k4=>.fp t29 t27 Y<|.ld t27 Y (.ptr _ _ _ _ _ Y) Y<|.mv Y<|.c0 (c_szIntervalS a.ints left (by first | assumption | exact ⟨by omega,szIvs_le (by omega)⟩)) Y (.dd (.dd .nil)) (.own [8,0] .nil) Y<|.as Y<|.z<|.seq<|.seq ?_
 refine .rs fun k5=>.mv Y<|.bi Y<|.z ?_
 refine .cond (t:=decide ((szIvs a.ints left) < 0)) Y (fun c0=>?_) (fun c0=>?_)
 ·have c0:=of_decide_eq_true c0
  refine .seq<|.rs fun k6=>.as Y<|.z<|.ret ?_
  exact fin0 (.inr Y) (.one (svI (show (-1)=(szEnv a left) by (simp only [szEnv]; rw [if_pos c0]))) .nil) (.dd .nil) Y
 ·have c0:=of_decide_eq_false c0
  refine .skip<|.seq<|.rs fun k8=>.fp t29 t27 Y<|.ld t27 Y (.ptr _ _ _ _ _ Y) Y<|.mv Y<|.c0 (c_szIntervalS a.arrs (szIvs a.ints left) (by first | assumption | exact ⟨by omega,szIvs_le (by omega)⟩)) Y (.dd (.dd .nil)) (.own [14,0] .nil) Y<|.as Y<|.z ?_
  refine .seq<|.seq<|.rs fun k9=>.mv Y<|.bi Y<|.z ?_
  refine .cond (t:=decide ((szIvs a.arrs (szIvs a.ints left)) < 0)) Y (fun c1=>?_) (fun c1=>?_)
  ·have c1:=of_decide_eq_true c1
   refine .seq<|.rs fun k10=>.as Y<|.z<|.ret ?_
   exact fin0 (.inr Y) (.one (svI (show (-1)=(szEnv a left) by (simp only [szEnv]; rw [if_neg c0,if_pos c1]))) .nil) (.dd .nil) Y
  ·have c1:=of_decide_eq_false c1
   refine .skip<|.seq<|.rs fun k12=>.mv Y<|.as Y<|.z<|.ret ?_
   exact fin0 (.inr Y) (.one (svI (show (szIvs a.arrs (szIvs a.ints left))=(szEnv a left) by (simp only [szEnv]; rw [if_neg c0,if_neg c1]))) .nil) (.dd .nil) Y
theorem c_toInterval (a:Iv):Trip Tryz.prog 70 [(true,2)] (Iv.c a) [(true,2)] [.v (.int .i64 (a.lo)),.v (.int .i64 (a.hi))] []:=by
 refine Trip.of Tryz.func70 (by decide) (c:=_) Y Y (Nat.le_of_ble_eq_true Y) Y (AftOk.nil _)<|.seq<|.rs fun k1=>.g (fun _ τ=>⟨_,.box (.no Y) Y Y Y Y Y τ⟩)<|.g (fun _ τ=>⟨_,.alloc (.no Y) Y z34 Y Y Y τ⟩)<|.z<|.seq<|.rs fun k2=>.g (fun _ τ=>⟨_,.alloc (.no Y) Y z34 Y Y Y τ⟩) ?_
 refine .z<|.seq<|.rs fun k3=>.fp t124 t2 Y<|.ld t2 Y (.ptr _ _ _ _ _ Y) Y<|.fp t34 t2 Y<|.g (fun _ τ=>⟨_,.store (.no Y) Y t2 Y Y Y Y Y Y Y Y Y τ⟩)<|.z<|.seq ?_
 refine .rs fun k4=>.fp t124 t2 Y<|.ld t2 Y (.ptr _ _ _ _ _ Y) Y<|.fp t34 t2 Y<|.g (fun _ τ=>⟨_,.store (.no Y) Y t2 Y Y Y Y Y Y Y Y Y τ⟩)<|.z<|.seq<|.rs fun k5=>.lda t34 Y (.ptr _ _ _ _ _ Y) Y ?_
 refine .g (fun _ τ=>⟨_,.store (.no Y) Y t34 Y Y Y Y Y Y Y Y Y τ⟩)<|.z<|.ret ?_
 exact fin0 (.inr Y) (.cell (cells:=[.d (.v (.int .i64 (a.lo))),.d (.v (.int .i64 (a.hi)))]) Y Y t34 Y Y .nil) (.dd (.dd .nil)) Y
theorem c_toArr (a:Arr):Trip Tryz.prog 69 [(true,2)] (Arr.c a) [(true,2)] [.v (.string (a.name)),.v (.int .i64 (a.size))] []:=by
 refine Trip.of Tryz.func69 (by decide) (c:=_) Y Y (Nat.le_of_ble_eq_true Y) Y (AftOk.nil _)<|.seq<|.rs fun k1=>.g (fun _ τ=>⟨_,.box (.no Y) Y Y Y Y Y τ⟩)<|.g (fun _ τ=>⟨_,.alloc (.no Y) Y z120 Y Y Y τ⟩)<|.z<|.seq<|.rs fun k2=>.g (fun _ τ=>⟨_,.alloc (.no Y) Y z120 Y Y Y τ⟩) ?_
 refine .z<|.seq<|.rs fun k3=>.fp t114 t9 Y<|.ld t9 Y (.ptr _ _ _ _ _ Y) Y<|.fp t120 t9 Y<|.g (fun _ τ=>⟨_,.store (.no Y) Y t9 Y Y Y Y Y Y Y Y Y τ⟩)<|.z<|.seq ?_
 refine .rs fun k4=>.fp t114 t2 Y<|.ld t2 Y (.ptr _ _ _ _ _ Y) Y<|.fp t120 t2 Y<|.g (fun _ τ=>⟨_,.store (.no Y) Y t2 Y Y Y Y Y Y Y Y Y τ⟩)<|.z<|.seq<|.rs fun k5=>.lda t120 Y (.ptr _ _ _ _ _ Y) Y ?_
 refine .g (fun _ τ=>⟨_,.store (.no Y) Y t120 Y Y Y Y Y Y Y Y Y τ⟩)<|.z<|.ret ?_
 exact fin0 (.inr Y) (.cell (cells:=[.d (.v (.string (a.name))),.d (.v (.int .i64 (a.size)))]) Y Y t120 Y Y .nil) (.dd (.dd .nil)) Y
theorem c_toIntervalS (a:List Iv) (hb:a.length≤1048576):Trip Tryz.prog 33 [(false,1)] ([.sl false 124 2 (List.map Iv.c (a))]) [(false,1)] [.sl true 34 2 (List.map Iv.c (a))] []:=by
 refine Trip.of Tryz.func33 (by decide) (c:=_) Y Y (Nat.le_of_ble_eq_true Y) Y (AftOk.nil _)<|.sl (t:=0) Y fun hs1l=>.seq<|.rs fun k2=>.as Y<|.z<|.seq<|.rs fun k3=>.mv Y ?_
 refine .g (fun _ τ=>⟨_,.len (.no Y) Y (z:=(a.length:Int)) t27 Y Y Y (.d _ _) (map_len _ _) Y τ⟩)<|.g (fun _ τ=>⟨_,.makeSlice (.no Y) Y (n0:=a.length) (els:=List.map Iv.c (List.replicate a.length (Iv.mk 0 0))) t44 Y z34 Y Y Y Y Y (by (simp [i34]; omega)) (by omega) (rep_map _ _ _ Y) Y τ⟩)<|.as Y<|.z<|.seq<|.seq<|.rs fun k4=>.as Y<|.z ?_
 refine .block ?_
 refine .loop (X:=Nat × Nat × Nat) (fun ζ=>.of [(0,.one (.d (.sl false 124 2 (List.map Iv.c (a))))),(3,.one (.ref [7] (ζ.2.1))),(4,.one (.d (.v (.int .i64 ((ζ.1:Int))))))] [([7],(ζ.2.1,ζ.2.2,.row 34 2 (List.map Iv.c (fillTo a (Iv.mk 0 0) ζ.1))))]) (fun ζ=>ζ.1≤a.length) (fun ζ=>a.length - ζ.1) ?_ ?_
 ·skip
  exact .here (0,(k3+1+1),(k3+1+1)) (.of (.cons Y (.cons (by show SV.one (.ref [7] (k3+1+1))=SV.one (.ref [7] ((k3+1+1))); first | rfl | simp_all) (.cons (svI (show (0)=((0:Int)) by first | rfl | omega | exact wrap_le (by omega) (by omega) | (rw [wrap_le (by omega) (by omega)]; omega))) .nil))) (.cons (rowE (show List.map Iv.c (List.replicate a.length (Iv.mk 0 0))=List.map Iv.c (fillTo a (Iv.mk 0 0) 0) by first | rfl | (rw [fillTo_zero]) | (rw [fillTo_step _ _ _ (by omega) Y]))) .nil)) (show 0≤a.length by omega)
 ·rintro ⟨j,q5,q6⟩ hI
  have hI:j≤a.length:=hI
  dsimp only
  refine .seq<|.seq<|.rs fun k7=>.mv Y<|.mv Y<|.g (fun _ τ=>⟨_,.len (.no Y) Y (z:=(a.length:Int)) t27 Y Y Y (.d _ _) (map_len _ _) Y τ⟩)<|.bi Y<|.z ?_
  refine .cond (t:=decide ((j:Int) < (a.length:Int))) Y (fun c0=>?_) (fun c0=>?_)
  ·have c0:=of_decide_eq_true c0
   refine .skip<|.seq<|.block<|.rs fun k8=>.mv Y<|.mv Y<|.mv Y<|.mv Y<|.g (fun _ τ=>⟨_,.indexAddr (.no Y) Y (j) t27 Y t124 Y Y Y (.d _ _) Y Y Y (map_get (by first | omega | (rw [fillTo_len]; omega))) Y Y τ⟩) ?_
   refine .lda t124 Y (.d _) Y<|.c0 (c_toInterval (a.getD j default)) Y (.dd (.dd .nil)) (.own [20,0] (.own [20,1] .nil)) Y<|.g (fun _ τ=>⟨_,.indexAddr (.no Y) Y (j) t44 Y t34 Y Y Y (.ref _ _ _ _ _ Y) Y Y Y (map_get (by first | omega | (rw [fillTo_len]; omega))) Y Y τ⟩)<|.g (fun _ τ=>⟨_,.storeE (.no Y) Y (els':=List.map Iv.c ((fillTo a (Iv.mk 0 0) j).set j (a.getD j default))) t34 Y Y Y Y (map_get (by first | omega | (rw [fillTo_len]; omega))) Y Y (.cons _ _ _ _ _ _ (.d _) (.cons _ _ _ _ _ _ (.d _) .nil)) Y (Nat.le_of_ble_eq_true Y) (set_map _ _ _ (a.getD j default) _ Y) Y Y τ⟩)<|.z<|.rs fun k9=>.mv Y<|.bi Y<|.as Y ?_
   refine .z ?_
   exact .here ((j+1),q5,(k8+1+1+1+1+1+1+1+1)) (.of (.cons Y (.cons Y (.cons (svI (show (IntKind.wrap .i64 ((j:Int)+1))=(((j+1):Int)) by first | rfl | omega | exact wrap_le (by omega) (by omega) | (rw [wrap_le (by omega) (by omega)]; omega))) .nil))) (.cons (rowE (show List.map Iv.c ((fillTo a (Iv.mk 0 0) j).set j (a.getD j default))=List.map Iv.c (fillTo a (Iv.mk 0 0) (j+1)) by first | rfl | (rw [fillTo_zero]) | (rw [fillTo_step _ _ _ (by omega) Y]))) .nil)) ⟨(show (j+1)≤a.length by omega),(show a.length - (j+1) < a.length - j by omega)⟩
  ·have c0:=of_decide_eq_false c0
   refine .exit<|.seq<|.rs fun k10=>.mv Y<|.as Y<|.z<|.ret ?_
   have e11:(fillTo a (Iv.mk 0 0) j)=(a):=by (exact fillTo_all _ _ (by omega))
   exact fin1 (.inr Y) [] [([7],(q5,q6,.row 34 2 (List.map Iv.c (a))))] (.one Y .nil) (.cons (.ref (.head _)) .nil) Y Y (.cons (rowE (congrArg (List.map Iv.c) e11)) .nil)
theorem c_toStringS (a:List ByteArray) (hb:a.length≤1048576):Trip Tryz.prog 30 [(false,1)] ([.sl false 9 1 (List.map strc (a))]) [(false,1)] [.sl true 9 1 (List.map strc (a))] []:=by
 refine Trip.of Tryz.func30 (by decide) (c:=_) Y Y (Nat.le_of_ble_eq_true Y) Y (AftOk.nil _)<|.sl (t:=0) Y fun hs1l=>.seq<|.rs fun k2=>.as Y<|.z<|.seq<|.rs fun k3=>.mv Y ?_
 refine .g (fun _ τ=>⟨_,.len (.no Y) Y (z:=(a.length:Int)) t22 Y Y Y (.d _ _) (map_len _ _) Y τ⟩)<|.g (fun _ τ=>⟨_,.makeSlice (.no Y) Y (n0:=a.length) (els:=List.map strc (List.replicate a.length .empty)) t22 Y z9 Y Y Y Y Y (by (simp [i9]; omega)) (by omega) (rep_map _ _ _ Y) Y τ⟩)<|.as Y<|.z<|.seq<|.seq<|.rs fun k4=>.as Y<|.z ?_
 refine .block ?_
 refine .loop (X:=Nat × Nat × Nat) (fun ζ=>.of [(0,.one (.d (.sl false 9 1 (List.map strc (a))))),(3,.one (.ref [7] (ζ.2.1))),(4,.one (.d (.v (.int .i64 ((ζ.1:Int))))))] [([7],(ζ.2.1,ζ.2.2,.row 9 1 (List.map strc (fillTo a (.empty) ζ.1))))]) (fun ζ=>ζ.1≤a.length) (fun ζ=>a.length - ζ.1) ?_ ?_
 ·skip
  exact .here (0,(k3+1+1),(k3+1+1)) (.of (.cons Y (.cons (by show SV.one (.ref [7] (k3+1+1))=SV.one (.ref [7] ((k3+1+1))); first | rfl | simp_all) (.cons (svI (show (0)=((0:Int)) by first | rfl | omega | exact wrap_le (by omega) (by omega) | (rw [wrap_le (by omega) (by omega)]; omega))) .nil))) (.cons (rowE (show List.map strc (List.replicate a.length .empty)=List.map strc (fillTo a (.empty) 0) by first | rfl | (rw [fillTo_zero]) | (rw [fillTo_step _ _ _ (by omega) Y]))) .nil)) (show 0≤a.length by omega)
 ·rintro ⟨j,q5,q6⟩ hI
  have hI:j≤a.length:=hI
  dsimp only
  refine .seq<|.seq<|.rs fun k7=>.mv Y<|.mv Y<|.g (fun _ τ=>⟨_,.len (.no Y) Y (z:=(a.length:Int)) t22 Y Y Y (.d _ _) (map_len _ _) Y τ⟩)<|.bi Y<|.z ?_
  refine .cond (t:=decide ((j:Int) < (a.length:Int))) Y (fun c0=>?_) (fun c0=>?_)
  ·have c0:=of_decide_eq_true c0
   refine .skip<|.seq<|.block<|.rs fun k8=>.mv Y<|.mv Y<|.mv Y<|.mv Y<|.g (fun _ τ=>⟨_,.indexAddr (.no Y) Y (j) t22 Y t9 Y Y Y (.d _ _) Y Y Y (map_get (by first | omega | (rw [fillTo_len]; omega))) Y Y τ⟩) ?_
   refine .ld t9 Y (.d _) Y<|.g (fun _ τ=>⟨_,.indexAddr (.no Y) Y (j) t22 Y t9 Y Y Y (.ref _ _ _ _ _ Y) Y Y Y (map_get (by first | omega | (rw [fillTo_len]; omega))) Y Y τ⟩)<|.g (fun _ τ=>⟨_,.storeE (.no Y) Y (els':=List.map strc ((fillTo a (.empty) j).set j (a.getD j default))) t9 Y Y Y Y (map_get (by first | omega | (rw [fillTo_len]; omega))) Y Y (.cons _ _ _ _ _ _ (.d _) .nil) Y (Nat.le_of_ble_eq_true Y) (set_map _ _ _ (a.getD j default) _ Y) Y Y τ⟩)<|.z<|.rs fun k9=>.mv Y<|.bi Y<|.as Y<|.z ?_
   exact .here ((j+1),q5,(k8+1+1+1+1+1+1+1)) (.of (.cons Y (.cons Y (.cons (svI (show (IntKind.wrap .i64 ((j:Int)+1))=(((j+1):Int)) by first | rfl | omega | exact wrap_le (by omega) (by omega) | (rw [wrap_le (by omega) (by omega)]; omega))) .nil))) (.cons (rowE (show List.map strc ((fillTo a (.empty) j).set j (a.getD j default))=List.map strc (fillTo a (.empty) (j+1)) by first | rfl | (rw [fillTo_zero]) | (rw [fillTo_step _ _ _ (by omega) Y]))) .nil)) ⟨(show (j+1)≤a.length by omega),(show a.length - (j+1) < a.length - j by omega)⟩
  ·have c0:=of_decide_eq_false c0
   refine .exit<|.seq<|.rs fun k10=>.mv Y<|.as Y<|.z<|.ret ?_
   have e11:(fillTo a (.empty) j)=(a):=by (exact fillTo_all _ _ (by omega))
   exact fin1 (.inr Y) [] [([7],(q5,q6,.row 9 1 (List.map strc (a))))] (.one Y .nil) (.cons (.ref (.head _)) .nil) Y Y (.cons (rowE (congrArg (List.map strc) e11)) .nil)
theorem c_toArrS (a:List Arr) (hb:a.length≤1048576):Trip Tryz.prog 31 [(false,1)] ([.sl false 114 2 (List.map Arr.c (a))]) [(false,1)] [.sl true 120 2 (List.map Arr.c (a))] []:=by
 refine Trip.of Tryz.func31 (by decide) (c:=_) Y Y (Nat.le_of_ble_eq_true Y) Y (AftOk.nil _)<|.sl (t:=0) Y fun hs1l=>.seq<|.rs fun k2=>.as Y<|.z<|.seq<|.rs fun k3=>.mv Y ?_
 refine .g (fun _ τ=>⟨_,.len (.no Y) Y (z:=(a.length:Int)) t23 Y Y Y (.d _ _) (map_len _ _) Y τ⟩)<|.g (fun _ τ=>⟨_,.makeSlice (.no Y) Y (n0:=a.length) (els:=List.map Arr.c (List.replicate a.length (Arr.mk .empty 0))) t38 Y z120 Y Y Y Y Y (by (simp [i120]; omega)) (by omega) (rep_map _ _ _ Y) Y τ⟩)<|.as Y<|.z<|.seq<|.seq<|.rs fun k4=>.as Y<|.z ?_
 refine .block ?_
 refine .loop (X:=Nat × Nat × Nat) (fun ζ=>.of [(0,.one (.d (.sl false 114 2 (List.map Arr.c (a))))),(3,.one (.ref [7] (ζ.2.1))),(4,.one (.d (.v (.int .i64 ((ζ.1:Int))))))] [([7],(ζ.2.1,ζ.2.2,.row 120 2 (List.map Arr.c (fillTo a (Arr.mk .empty 0) ζ.1))))]) (fun ζ=>ζ.1≤a.length) (fun ζ=>a.length - ζ.1) ?_ ?_
 ·skip
  exact .here (0,(k3+1+1),(k3+1+1)) (.of (.cons Y (.cons (by show SV.one (.ref [7] (k3+1+1))=SV.one (.ref [7] ((k3+1+1))); first | rfl | simp_all) (.cons (svI (show (0)=((0:Int)) by first | rfl | omega | exact wrap_le (by omega) (by omega) | (rw [wrap_le (by omega) (by omega)]; omega))) .nil))) (.cons (rowE (show List.map Arr.c (List.replicate a.length (Arr.mk .empty 0))=List.map Arr.c (fillTo a (Arr.mk .empty 0) 0) by first | rfl | (rw [fillTo_zero]) | (rw [fillTo_step _ _ _ (by omega) Y]))) .nil)) (show 0≤a.length by omega)
 ·rintro ⟨j,q5,q6⟩ hI
  have hI:j≤a.length:=hI
  dsimp only
  refine .seq<|.seq<|.rs fun k7=>.mv Y<|.mv Y<|.g (fun _ τ=>⟨_,.len (.no Y) Y (z:=(a.length:Int)) t23 Y Y Y (.d _ _) (map_len _ _) Y τ⟩)<|.bi Y<|.z ?_
  refine .cond (t:=decide ((j:Int) < (a.length:Int))) Y (fun c0=>?_) (fun c0=>?_)
  ·have c0:=of_decide_eq_true c0
   refine .skip<|.seq<|.block<|.rs fun k8=>.mv Y<|.mv Y<|.mv Y<|.mv Y<|.g (fun _ τ=>⟨_,.indexAddr (.no Y) Y (j) t23 Y t114 Y Y Y (.d _ _) Y Y Y (map_get (by first | omega | (rw [fillTo_len]; omega))) Y Y τ⟩) ?_
   refine .lda t114 Y (.d _) Y<|.c0 (c_toArr (a.getD j default)) Y (.dd (.dd .nil)) (.own [20,0] (.own [20,1] .nil)) Y<|.g (fun _ τ=>⟨_,.indexAddr (.no Y) Y (j) t38 Y t120 Y Y Y (.ref _ _ _ _ _ Y) Y Y Y (map_get (by first | omega | (rw [fillTo_len]; omega))) Y Y τ⟩)<|.g (fun _ τ=>⟨_,.storeE (.no Y) Y (els':=List.map Arr.c ((fillTo a (Arr.mk .empty 0) j).set j (a.getD j default))) t120 Y Y Y Y (map_get (by first | omega | (rw [fillTo_len]; omega))) Y Y (.cons _ _ _ _ _ _ (.d _) (.cons _ _ _ _ _ _ (.d _) .nil)) Y (Nat.le_of_ble_eq_true Y) (set_map _ _ _ (a.getD j default) _ Y) Y Y τ⟩)<|.z<|.rs fun k9=>.mv Y<|.bi Y<|.as Y ?_
   refine .z ?_
   exact .here ((j+1),q5,(k8+1+1+1+1+1+1+1+1)) (.of (.cons Y (.cons Y (.cons (svI (show (IntKind.wrap .i64 ((j:Int)+1))=(((j+1):Int)) by first | rfl | omega | exact wrap_le (by omega) (by omega) | (rw [wrap_le (by omega) (by omega)]; omega))) .nil))) (.cons (rowE (show List.map Arr.c ((fillTo a (Arr.mk .empty 0) j).set j (a.getD j default))=List.map Arr.c (fillTo a (Arr.mk .empty 0) (j+1)) by first | rfl | (rw [fillTo_zero]) | (rw [fillTo_step _ _ _ (by omega) Y]))) .nil)) ⟨(show (j+1)≤a.length by omega),(show a.length - (j+1) < a.length - j by omega)⟩
  ·have c0:=of_decide_eq_false c0
   refine .exit<|.seq<|.rs fun k10=>.mv Y<|.as Y<|.z<|.ret ?_
   have e11:(fillTo a (Arr.mk .empty 0) j)=(a):=by (exact fillTo_all _ _ (by omega))
   exact fin1 (.inr Y) [] [([7],(q5,q6,.row 120 2 (List.map Arr.c (a))))] (.one Y .nil) (.cons (.ref (.head _)) .nil) Y Y (.cons (rowE (congrArg (List.map Arr.c) e11)) .nil)
theorem c_toEnv (a:Env) (hb:a.ints.length≤1048576∧a.arrs.length≤1048576):Trip Tryz.prog 11 [(true,3)] (Env.c29 a) [(true,3)] [.v (.bool (a.live)),.sl true 34 2 (List.map Iv.c (a.ints)),.sl true 34 2 (List.map Iv.c (a.arrs))] []:=by
 refine Trip.of Tryz.func11 (by decide) (c:=_) Y Y (Nat.le_of_ble_eq_true Y) Y (AftOk.nil _)<|.sla (t:=0) 1 Y Y fun hs1l=>.sla (t:=0) 2 Y Y fun hs2l=>.seq<|.rs fun k3=>.g (fun _ τ=>⟨_,.box (.no Y) Y Y Y Y Y τ⟩)<|.g (fun _ τ=>⟨_,.alloc (.no Y) Y z46 Y Y Y τ⟩)<|.z<|.seq ?_
 refine .rs fun k4=>.g (fun _ τ=>⟨_,.alloc (.no Y) Y z46 Y Y Y τ⟩)<|.z<|.seq<|.rs fun k5=>.fp t29 t4 Y<|.ld t4 Y (.ptr _ _ _ _ _ Y) Y<|.fp t46 t4 Y<|.g (fun _ τ=>⟨_,.store (.no Y) Y t4 Y Y Y Y Y Y Y Y Y τ⟩) ?_
 refine .z<|.seq<|.rs fun k6=>.fp t29 t27 Y<|.ld t27 Y (.ptr _ _ _ _ _ Y) Y<|.c0 (c_toIntervalS a.ints (by omega)) Y (.dd .nil) (.own [9,0] .nil) Y<|.fp t46 t44 Y<|.g (fun _ τ=>⟨_,.store (.no Y) Y t44 Y Y Y Y Y Y Y Y Y τ⟩)<|.z ?_
 refine .seq<|.rs fun k7=>.fp t29 t27 Y<|.ld t27 Y (.ptr _ _ _ _ _ Y) Y<|.c0 (c_toIntervalS a.arrs (by omega)) Y (.dd .nil) (.own [13,0] .nil) Y<|.fp t46 t44 Y<|.g (fun _ τ=>⟨_,.store (.no Y) Y t44 Y Y Y Y Y Y Y Y Y τ⟩)<|.z<|.seq ?_
 refine .rs fun k8=>.lda t46 Y (.ptr _ _ _ _ _ Y) Y<|.g (fun _ τ=>⟨_,.store (.no Y) Y t46 Y Y Y Y Y Y Y Y Y τ⟩)<|.z<|.ret ?_
 exact fin1 (.inr Y) [] [([9,0],(k6+1+1,k6+1+1,.row 34 2 (List.map Iv.c (a.ints)))),([13,0],(k7+1+1,k7+1+1,.row 34 2 (List.map Iv.c (a.arrs))))] (.cell (cells:=[.d (.v (.bool (a.live))),.ref [9,0] (k6+1+1),.ref [13,0] (k7+1+1)]) Y Y t46 Y Y .nil) (.dd (.cons (.ref (.head _)) (.cons (.ref (.tail _ (.head _))) .nil))) Y Y (.r Y)
theorem c_toDecl (a:Decl) (hb:a.vars.length≤1048576∧a.flags.length≤1048576∧a.arrays.length≤1048576):Trip Tryz.prog 9 [(true,3)] (Decl.c25 a) [(true,3)] [.sl true 9 1 (List.map strc (a.vars)),.sl true 9 1 (List.map strc (a.flags)),.sl true 120 2 (List.map Arr.c (a.arrays))] []:=by
 refine Trip.of Tryz.func9 (by decide) (c:=_) Y Y (Nat.le_of_ble_eq_true Y) Y (AftOk.nil _)<|.sla (t:=0) 0 Y Y fun hs1l=>.sla (t:=0) 1 Y Y fun hs2l=>.sla (t:=0) 2 Y Y fun hs3l=>.seq<|.rs fun k4=>.g (fun _ τ=>⟨_,.box (.no Y) Y Y Y Y Y τ⟩)<|.g (fun _ τ=>⟨_,.alloc (.no Y) Y z40 Y Y Y τ⟩)<|.z ?_
 refine .seq<|.rs fun k5=>.g (fun _ τ=>⟨_,.alloc (.no Y) Y z40 Y Y Y τ⟩)<|.z<|.seq<|.rs fun k6=>.fp t25 t22 Y<|.ld t22 Y (.ptr _ _ _ _ _ Y) Y<|.c0 (c_toStringS a.vars (by omega)) Y (.dd .nil) (.own [6,0] .nil) Y ?_
 refine .fp t40 t22 Y<|.g (fun _ τ=>⟨_,.store (.no Y) Y t22 Y Y Y Y Y Y Y Y Y τ⟩)<|.z<|.seq<|.rs fun k7=>.fp t25 t22 Y<|.ld t22 Y (.ptr _ _ _ _ _ Y) Y<|.c0 (c_toStringS a.flags (by omega)) Y (.dd .nil) (.own [10,0] .nil) Y<|.fp t40 t22 Y ?_
 refine .g (fun _ τ=>⟨_,.store (.no Y) Y t22 Y Y Y Y Y Y Y Y Y τ⟩)<|.z<|.seq<|.rs fun k8=>.fp t25 t23 Y<|.ld t23 Y (.ptr _ _ _ _ _ Y) Y<|.c0 (c_toArrS a.arrays (by omega)) Y (.dd .nil) (.own [14,0] .nil) Y<|.fp t40 t38 Y<|.g (fun _ τ=>⟨_,.store (.no Y) Y t38 Y Y Y Y Y Y Y Y Y τ⟩) ?_
 refine .z<|.seq<|.rs fun k9=>.lda t40 Y (.ptr _ _ _ _ _ Y) Y<|.g (fun _ τ=>⟨_,.store (.no Y) Y t40 Y Y Y Y Y Y Y Y Y τ⟩)<|.z<|.ret ?_
 exact fin1 (.inr Y) [] [([6,0],(k6+1+1,k6+1+1,.row 9 1 (List.map strc (a.vars)))),([10,0],(k7+1+1,k7+1+1,.row 9 1 (List.map strc (a.flags)))),([14,0],(k8+1+1,k8+1+1,.row 120 2 (List.map Arr.c (a.arrays))))] (.cell (cells:=[.ref [6,0] (k6+1+1),.ref [10,0] (k7+1+1),.ref [14,0] (k8+1+1)]) Y Y t40 Y Y .nil) (.cons (.ref (.head _)) (.cons (.ref (.tail _ (.head _))) (.cons (.ref (.tail _ (.tail _ (.head _)))) .nil))) Y Y (.r Y)
theorem c_eqInterval (a:Iv) (b:Iv):Trip Tryz.prog 37 [(true,2),(true,2)] (Iv.c a++Iv.c b) [(false,1)] [.v (.bool (Iv.same a b))] []:=by
 refine Trip.of Tryz.func37 (by decide) (c:=_) Y Y (Nat.le_of_ble_eq_true Y) Y (AftOk.nil _)<|.seq<|.rs fun k1=>.g (fun _ τ=>⟨_,.box (.no Y) Y Y Y Y Y τ⟩)<|.g (fun _ τ=>⟨_,.box (.no Y) Y Y Y Y Y τ⟩)<|.as Y<|.z<|.seq<|.seq ?_
 refine .rs fun k2=>.fp t34 t2 Y<|.ld t2 Y (.ptr _ _ _ _ _ Y) Y<|.fp t34 t2 Y<|.ld t2 Y (.ptr _ _ _ _ _ Y) Y<|.bi Y<|.z ?_
 refine .cond (t:=a.lo != b.lo) Y (fun c0=>?_) (fun c0=>?_)
 ·have c0:=(by simpa using c0:¬ (a.lo=b.lo))
  refine .seq<|.rs fun k3=>.as Y<|.z<|.ret ?_
  exact fin0 (.inr Y) (.one (svB (show (false)=(Iv.same a b) by (simp_all [Iv.same]))) .nil) (.dd .nil) Y
 ·have c0:=(by simpa using c0:a.lo=b.lo)
  refine .skip<|.seq<|.seq<|.rs fun k5=>.fp t34 t2 Y<|.ld t2 Y (.ptr _ _ _ _ _ Y) Y<|.fp t34 t2 Y<|.ld t2 Y (.ptr _ _ _ _ _ Y) Y<|.bi Y ?_
  refine .z ?_
  refine .cond (t:=a.hi != b.hi) Y (fun c1=>?_) (fun c1=>?_)
  ·have c1:=(by simpa using c1:¬ (a.hi=b.hi))
   refine .seq<|.rs fun k6=>.as Y<|.z<|.ret ?_
   exact fin0 (.inr Y) (.one (svB (show (false)=(Iv.same a b) by (simp_all [Iv.same]))) .nil) (.dd .nil) Y
  ·have c1:=(by simpa using c1:a.hi=b.hi)
   refine .skip<|.seq<|.rs fun k8=>.as Y<|.z<|.ret ?_
   exact fin0 (.inr Y) (.one (svB (show (true)=(Iv.same a b) by (simp_all [Iv.same]))) .nil) (.dd .nil) Y
theorem c_eqArr (a:Arr) (b:Arr):Trip Tryz.prog 83 [(true,2),(true,2)] (Arr.c a++Arr.c b) [(false,1)] [.v (.bool (Arr.same a b))] []:=by
 refine Trip.of Tryz.func83 (by decide) (c:=_) Y Y (Nat.le_of_ble_eq_true Y) Y (AftOk.nil _)<|.seq<|.rs fun k1=>.g (fun _ τ=>⟨_,.box (.no Y) Y Y Y Y Y τ⟩)<|.g (fun _ τ=>⟨_,.box (.no Y) Y Y Y Y Y τ⟩)<|.as Y<|.z<|.seq<|.seq ?_
 refine .rs fun k2=>.fp t120 t9 Y<|.ld t9 Y (.ptr _ _ _ _ _ Y) Y<|.fp t120 t9 Y<|.ld t9 Y (.ptr _ _ _ _ _ Y) Y<|.bi Y<|.z ?_
 refine .cond (t:=!(a.name.toList == b.name.toList)) Y (fun c0=>?_) (fun c0=>?_)
 ·have c0:=(nT eF) c0
  refine .seq<|.rs fun k3=>.as Y<|.z<|.ret ?_
  exact fin0 (.inr Y) (.one (svB (show (false)=(Arr.same a b) by (simp_all [Arr.same,strEq]))) .nil) (.dd .nil) Y
 ·have c0:=(nF eT) c0
  refine .skip<|.seq<|.seq<|.rs fun k5=>.fp t120 t2 Y<|.ld t2 Y (.ptr _ _ _ _ _ Y) Y<|.fp t120 t2 Y<|.ld t2 Y (.ptr _ _ _ _ _ Y) Y<|.bi Y ?_
  refine .z ?_
  refine .cond (t:=a.size != b.size) Y (fun c1=>?_) (fun c1=>?_)
  ·have c1:=(by simpa using c1:¬ (a.size=b.size))
   refine .seq<|.rs fun k6=>.as Y<|.z<|.ret ?_
   exact fin0 (.inr Y) (.one (svB (show (false)=(Arr.same a b) by (simp_all [Arr.same,strEq]))) .nil) (.dd .nil) Y
  ·have c1:=(by simpa using c1:a.size=b.size)
   refine .skip<|.seq<|.rs fun k8=>.as Y<|.z<|.ret ?_
   exact fin0 (.inr Y) (.one (svB (show (true)=(Arr.same a b) by (simp_all [Arr.same,strEq]))) .nil) (.dd .nil) Y
theorem c_eqIntervalS (a:List Iv) (b:List Iv):Trip Tryz.prog 41 [(false,1),(false,1)] ([.sl false 34 2 (List.map Iv.c (a))]++[.sl false 34 2 (List.map Iv.c (b))]) [(false,1)] [.v (.bool (all2 Iv.same a b))] []:=by
 refine Trip.of Tryz.func41 (by decide) (c:=_) Y Y (Nat.le_of_ble_eq_true Y) Y (AftOk.nil _)<|.sl (t:=0) Y fun hs1l=>.sl (t:=1) Y fun hs2l=>.seq<|.rs fun k3=>.as Y<|.z<|.seq<|.seq ?_
 refine .rs fun k4=>.mv Y<|.g (fun _ τ=>⟨_,.len (.no Y) Y (z:=(a.length:Int)) t44 Y Y Y (.d _ _) (map_len _ _) Y τ⟩)<|.mv Y<|.g (fun _ τ=>⟨_,.len (.no Y) Y (z:=(b.length:Int)) t44 Y Y Y (.d _ _) (map_len _ _) Y τ⟩)<|.bi Y<|.z ?_
 refine .cond (t:=(a.length:Int) != (b.length:Int)) Y (fun c0=>?_) (fun c0=>?_)
 ·have c0:=(by simpa using c0:¬ ((a.length:Int)=(b.length:Int)))
  refine .seq<|.rs fun k5=>.as Y<|.z<|.ret ?_
  exact fin0 (.inr Y) (.one (svB (show (false)=(all2 Iv.same a b) by exact (all2_ne _ c0).symm)) .nil) (.dd .nil) Y
 ·have c0:=(by simpa using c0:(a.length:Int)=(b.length:Int))
  refine .skip<|.seq<|.seq<|.rs fun k7=>.as Y<|.z<|.block ?_
  refine .loop (X:=Nat) (fun ζ=>.of [(0,.one (.d (.sl false 34 2 (List.map Iv.c (a))))),(1,.one (.d (.sl false 34 2 (List.map Iv.c (b))))),(5,.one (.d (.v (.int .i64 ((ζ:Int))))))] []) (fun ζ=>ζ≤a.length∧a.length=b.length∧allTo ζ (fun i=>Iv.same (a.getD i default) (b.getD i default))=true) (fun ζ=>a.length - ζ) ?_ ?_
  ·skip
   exact .here 0 (.of (.cons Y (.cons Y (.cons (svI (show (0)=((0:Int)) by first | rfl | omega | exact wrap_le (by omega) (by omega) | (rw [wrap_le (by omega) (by omega)]; omega))) .nil))) .nil) (show 0≤a.length∧a.length=b.length∧allTo 0 (fun i=>Iv.same (a.getD i default) (b.getD i default))=true by exact ⟨by omega,by omega,rfl⟩)
  ·rintro j hI
   have hI:j≤a.length∧a.length=b.length∧allTo j (fun i=>Iv.same (a.getD i default) (b.getD i default))=true:=hI
   refine .seq<|.seq<|.rs fun k8=>.mv Y<|.mv Y<|.g (fun _ τ=>⟨_,.len (.no Y) Y (z:=(a.length:Int)) t44 Y Y Y (.d _ _) (map_len _ _) Y τ⟩)<|.bi Y<|.z ?_
   refine .cond (t:=decide ((j:Int) < (a.length:Int))) Y (fun c1=>?_) (fun c1=>?_)
   ·have c1:=of_decide_eq_true c1
    refine .skip<|.seq<|.block<|.seq ?_
    refine .regD (X:=Unit) (by kernel_rfl) (fun ζ=>.of [(0,.one (.d (.sl false 34 2 (List.map Iv.c (a))))),(1,.one (.d (.sl false 34 2 (List.map Iv.c (b))))),(5,.one (.d (.v (.int .i64 ((j:Int)))))),(26,.one (.d (.v (.bool (!(Iv.same (a.getD j default) (b.getD j default)))))))] []) [⟨[0],some 17,[],[]⟩,⟨[5],some 18,[],[]⟩,⟨[17,18],some 19,[],[]⟩,⟨[19],some 20,[],[]⟩,⟨[1],some 21,[],[]⟩,⟨[5],some 22,[],[]⟩,⟨[21,22],some 23,[],[]⟩,⟨[23],some 24,[],[]⟩,⟨[20,24],some 25,[],[]⟩,⟨[25],some 26,[],[]⟩] (by kernel_rfl) (fun k9=>?_) ?_
    ·skip
     refine .move (.no Y) Y Y Y Y<|.move (.no Y) Y Y Y Y<|.indexAddr (.no Y) Y (j) t44 Y t34 Y Y Y (.d _ _) Y Y Y (map_get (by omega)) Y Y<|.load (.no Y) Y t34 Y Y (.d _) Y Y Y Y<|.move (.no Y) Y Y Y Y<|.move (.no Y) Y Y Y Y<|.indexAddr (.no Y) Y (j) t44 Y t34 Y Y Y (.d _ _) Y Y Y (map_get (by omega)) Y Y<|.load (.no Y) Y t34 Y Y (.d _) Y Y Y Y<|.call (.no Y) Y [] [] (c_eqInterval (a.getD j default) (b.getD j default)) Y Y Y Y Y (.dd (.dd (.dd (.dd .nil)))) Y Y (fun h=>absurd Y h) (.own [25,0] .nil) (.nil) Y Y Y (by simp) Y Y Y ?_
     refine .un (.no Y) Y Y Y Y Y ?_
     exact .fin () (.of (.r Y) .nil)
    intro _
    refine .cond (t:=!(Iv.same (a.getD j default) (b.getD j default))) Y (fun c2=>?_) (fun c2=>?_)
    ·have c2:=(nT id) c2
     refine .seq<|.rs fun k10=>.as Y<|.z<|.ret ?_
     exact fin0 (.inr Y) (.one (svB (show (false)=(all2 Iv.same a b) by exact (all2_fail _ (j:=j) (by omega) (by simpa [] using c2)).symm)) .nil) (.dd .nil) Y
    ·have c2:=(nF id) c2
     refine .skip<|.rs fun k12=>.mv Y<|.bi Y<|.as Y<|.z ?_
     exact .here (j+1) (.of (.cons Y (.cons Y (.cons (svI (show (IntKind.wrap .i64 ((j:Int)+1))=(((j+1):Int)) by first | rfl | omega | exact wrap_le (by omega) (by omega) | (rw [wrap_le (by omega) (by omega)]; omega))) .nil))) .nil) ⟨(show (j+1)≤a.length∧a.length=b.length∧allTo (j+1) (fun i=>Iv.same (a.getD i default) (b.getD i default))=true by exact ⟨by omega,by omega,allTo_step hI.2.2 (by simpa [] using c2)⟩),(show a.length - (j+1) < a.length - j by omega)⟩
   ·have c1:=of_decide_eq_false c1
    refine .exit<|.seq<|.rs fun k13=>.as Y<|.z<|.ret ?_
    exact fin0 (.inr Y) (.one (svB (show (true)=(all2 Iv.same a b) by (have hj:j=a.length:=(by omega); subst hj; exact (all2_done _ hI.2.1 hI.2.2).symm))) .nil) (.dd .nil) Y
theorem c_eqStringS (a:List ByteArray) (b:List ByteArray):Trip Tryz.prog 38 [(false,1),(false,1)] ([.sl false 9 1 (List.map strc (a))]++[.sl false 9 1 (List.map strc (b))]) [(false,1)] [.v (.bool (all2 strEq a b))] []:=by
 refine Trip.of Tryz.func38 (by decide) (c:=_) Y Y (Nat.le_of_ble_eq_true Y) Y (AftOk.nil _)<|.sl (t:=0) Y fun hs1l=>.sl (t:=1) Y fun hs2l=>.seq<|.rs fun k3=>.as Y<|.z<|.seq<|.seq ?_
 refine .rs fun k4=>.mv Y<|.g (fun _ τ=>⟨_,.len (.no Y) Y (z:=(a.length:Int)) t22 Y Y Y (.d _ _) (map_len _ _) Y τ⟩)<|.mv Y<|.g (fun _ τ=>⟨_,.len (.no Y) Y (z:=(b.length:Int)) t22 Y Y Y (.d _ _) (map_len _ _) Y τ⟩)<|.bi Y<|.z ?_
 refine .cond (t:=(a.length:Int) != (b.length:Int)) Y (fun c0=>?_) (fun c0=>?_)
 ·have c0:=(by simpa using c0:¬ ((a.length:Int)=(b.length:Int)))
  refine .seq<|.rs fun k5=>.as Y<|.z<|.ret ?_
  exact fin0 (.inr Y) (.one (svB (show (false)=(all2 strEq a b) by exact (all2_ne _ c0).symm)) .nil) (.dd .nil) Y
 ·have c0:=(by simpa using c0:(a.length:Int)=(b.length:Int))
  refine .skip<|.seq<|.seq<|.rs fun k7=>.as Y<|.z<|.block ?_
  refine .loop (X:=Nat) (fun ζ=>.of [(0,.one (.d (.sl false 9 1 (List.map strc (a))))),(1,.one (.d (.sl false 9 1 (List.map strc (b))))),(5,.one (.d (.v (.int .i64 ((ζ:Int))))))] []) (fun ζ=>ζ≤a.length∧a.length=b.length∧allTo ζ (fun i=>strEq (a.getD i default) (b.getD i default))=true) (fun ζ=>a.length - ζ) ?_ ?_
  ·skip
   exact .here 0 (.of (.cons Y (.cons Y (.cons (svI (show (0)=((0:Int)) by first | rfl | omega | exact wrap_le (by omega) (by omega) | (rw [wrap_le (by omega) (by omega)]; omega))) .nil))) .nil) (show 0≤a.length∧a.length=b.length∧allTo 0 (fun i=>strEq (a.getD i default) (b.getD i default))=true by exact ⟨by omega,by omega,rfl⟩)
  ·rintro j hI
   have hI:j≤a.length∧a.length=b.length∧allTo j (fun i=>strEq (a.getD i default) (b.getD i default))=true:=hI
   refine .seq<|.seq<|.rs fun k8=>.mv Y<|.mv Y<|.g (fun _ τ=>⟨_,.len (.no Y) Y (z:=(a.length:Int)) t22 Y Y Y (.d _ _) (map_len _ _) Y τ⟩)<|.bi Y<|.z ?_
   refine .cond (t:=decide ((j:Int) < (a.length:Int))) Y (fun c1=>?_) (fun c1=>?_)
   ·have c1:=of_decide_eq_true c1
    refine .skip<|.seq<|.block<|.seq ?_
    refine .regD (X:=Unit) (by kernel_rfl) (fun ζ=>.of [(0,.one (.d (.sl false 9 1 (List.map strc (a))))),(1,.one (.d (.sl false 9 1 (List.map strc (b))))),(5,.one (.d (.v (.int .i64 ((j:Int)))))),(25,.one (.d (.v (.bool (!((a.getD j default).toList == (b.getD j default).toList))))))] []) [⟨[0],some 17,[],[]⟩,⟨[5],some 18,[],[]⟩,⟨[17,18],some 19,[],[]⟩,⟨[19],some 20,[],[]⟩,⟨[1],some 21,[],[]⟩,⟨[5],some 22,[],[]⟩,⟨[21,22],some 23,[],[]⟩,⟨[23],some 24,[],[]⟩,⟨[20,24],some 25,[],[]⟩] (by kernel_rfl) (fun k9=>?_) ?_
    ·skip
     refine .move (.no Y) Y Y Y Y<|.move (.no Y) Y Y Y Y<|.indexAddr (.no Y) Y (j) t22 Y t9 Y Y Y (.d _ _) Y Y Y (map_get (by omega)) Y Y<|.load (.no Y) Y t9 Y Y (.d _) Y Y Y Y<|.move (.no Y) Y Y Y Y<|.move (.no Y) Y Y Y Y<|.indexAddr (.no Y) Y (j) t22 Y t9 Y Y Y (.d _ _) Y Y Y (map_get (by omega)) Y Y<|.load (.no Y) Y t9 Y Y (.d _) Y Y Y Y<|.bin (.no Y) Y Y Y Y Y Y ?_
     exact .fin () (.of (.r Y) .nil)
    intro _
    refine .cond (t:=!((a.getD j default).toList == (b.getD j default).toList)) Y (fun c2=>?_) (fun c2=>?_)
    ·have c2:=(nT eF) c2
     refine .seq<|.rs fun k10=>.as Y<|.z<|.ret ?_
     exact fin0 (.inr Y) (.one (svB (show (false)=(all2 strEq a b) by exact (all2_fail _ (j:=j) (by omega) (by simpa [strEq] using c2)).symm)) .nil) (.dd .nil) Y
    ·have c2:=(nF eT) c2
     refine .skip<|.rs fun k12=>.mv Y<|.bi Y<|.as Y<|.z ?_
     exact .here (j+1) (.of (.cons Y (.cons Y (.cons (svI (show (IntKind.wrap .i64 ((j:Int)+1))=(((j+1):Int)) by first | rfl | omega | exact wrap_le (by omega) (by omega) | (rw [wrap_le (by omega) (by omega)]; omega))) .nil))) .nil) ⟨(show (j+1)≤a.length∧a.length=b.length∧allTo (j+1) (fun i=>strEq (a.getD i default) (b.getD i default))=true by exact ⟨by omega,by omega,allTo_step hI.2.2 (by simpa [strEq] using c2)⟩),(show a.length - (j+1) < a.length - j by omega)⟩
   ·have c1:=of_decide_eq_false c1
    refine .exit<|.seq<|.rs fun k13=>.as Y<|.z<|.ret ?_
    exact fin0 (.inr Y) (.one (svB (show (true)=(all2 strEq a b) by (have hj:j=a.length:=(by omega); subst hj; exact (all2_done _ hI.2.1 hI.2.2).symm))) .nil) (.dd .nil) Y
theorem c_eqArrS (a:List Arr) (b:List Arr):Trip Tryz.prog 39 [(false,1),(false,1)] ([.sl false 120 2 (List.map Arr.c (a))]++[.sl false 120 2 (List.map Arr.c (b))]) [(false,1)] [.v (.bool (all2 Arr.same a b))] []:=by
 refine Trip.of Tryz.func39 (by decide) (c:=_) Y Y (Nat.le_of_ble_eq_true Y) Y (AftOk.nil _)<|.sl (t:=0) Y fun hs1l=>.sl (t:=1) Y fun hs2l=>.seq<|.rs fun k3=>.as Y<|.z<|.seq<|.seq ?_
 refine .rs fun k4=>.mv Y<|.g (fun _ τ=>⟨_,.len (.no Y) Y (z:=(a.length:Int)) t38 Y Y Y (.d _ _) (map_len _ _) Y τ⟩)<|.mv Y<|.g (fun _ τ=>⟨_,.len (.no Y) Y (z:=(b.length:Int)) t38 Y Y Y (.d _ _) (map_len _ _) Y τ⟩)<|.bi Y<|.z ?_
 refine .cond (t:=(a.length:Int) != (b.length:Int)) Y (fun c0=>?_) (fun c0=>?_)
 ·have c0:=(by simpa using c0:¬ ((a.length:Int)=(b.length:Int)))
  refine .seq<|.rs fun k5=>.as Y<|.z<|.ret ?_
  exact fin0 (.inr Y) (.one (svB (show (false)=(all2 Arr.same a b) by exact (all2_ne _ c0).symm)) .nil) (.dd .nil) Y
 ·have c0:=(by simpa using c0:(a.length:Int)=(b.length:Int))
  refine .skip<|.seq<|.seq<|.rs fun k7=>.as Y<|.z<|.block ?_
  refine .loop (X:=Nat) (fun ζ=>.of [(0,.one (.d (.sl false 120 2 (List.map Arr.c (a))))),(1,.one (.d (.sl false 120 2 (List.map Arr.c (b))))),(5,.one (.d (.v (.int .i64 ((ζ:Int))))))] []) (fun ζ=>ζ≤a.length∧a.length=b.length∧allTo ζ (fun i=>Arr.same (a.getD i default) (b.getD i default))=true) (fun ζ=>a.length - ζ) ?_ ?_
  ·skip
   exact .here 0 (.of (.cons Y (.cons Y (.cons (svI (show (0)=((0:Int)) by first | rfl | omega | exact wrap_le (by omega) (by omega) | (rw [wrap_le (by omega) (by omega)]; omega))) .nil))) .nil) (show 0≤a.length∧a.length=b.length∧allTo 0 (fun i=>Arr.same (a.getD i default) (b.getD i default))=true by exact ⟨by omega,by omega,rfl⟩)
  ·rintro j hI
   have hI:j≤a.length∧a.length=b.length∧allTo j (fun i=>Arr.same (a.getD i default) (b.getD i default))=true:=hI
   refine .seq<|.seq<|.rs fun k8=>.mv Y<|.mv Y<|.g (fun _ τ=>⟨_,.len (.no Y) Y (z:=(a.length:Int)) t38 Y Y Y (.d _ _) (map_len _ _) Y τ⟩)<|.bi Y<|.z ?_
   refine .cond (t:=decide ((j:Int) < (a.length:Int))) Y (fun c1=>?_) (fun c1=>?_)
   ·have c1:=of_decide_eq_true c1
    refine .skip<|.seq<|.block<|.seq ?_
    refine .regD (X:=Unit) (by kernel_rfl) (fun ζ=>.of [(0,.one (.d (.sl false 120 2 (List.map Arr.c (a))))),(1,.one (.d (.sl false 120 2 (List.map Arr.c (b))))),(5,.one (.d (.v (.int .i64 ((j:Int)))))),(26,.one (.d (.v (.bool (!(Arr.same (a.getD j default) (b.getD j default)))))))] []) [⟨[0],some 17,[],[]⟩,⟨[5],some 18,[],[]⟩,⟨[17,18],some 19,[],[]⟩,⟨[19],some 20,[],[]⟩,⟨[1],some 21,[],[]⟩,⟨[5],some 22,[],[]⟩,⟨[21,22],some 23,[],[]⟩,⟨[23],some 24,[],[]⟩,⟨[20,24],some 25,[],[]⟩,⟨[25],some 26,[],[]⟩] (by kernel_rfl) (fun k9=>?_) ?_
    ·skip
     refine .move (.no Y) Y Y Y Y<|.move (.no Y) Y Y Y Y<|.indexAddr (.no Y) Y (j) t38 Y t120 Y Y Y (.d _ _) Y Y Y (map_get (by omega)) Y Y<|.load (.no Y) Y t120 Y Y (.d _) Y Y Y Y<|.move (.no Y) Y Y Y Y<|.move (.no Y) Y Y Y Y<|.indexAddr (.no Y) Y (j) t38 Y t120 Y Y Y (.d _ _) Y Y Y (map_get (by omega)) Y Y<|.load (.no Y) Y t120 Y Y (.d _) Y Y Y Y<|.call (.no Y) Y [] [] (c_eqArr (a.getD j default) (b.getD j default)) Y Y Y Y Y (.dd (.dd (.dd (.dd .nil)))) Y Y (fun h=>absurd Y h) (.own [25,0] .nil) (.nil) Y Y Y (by simp) Y Y Y ?_
     refine .un (.no Y) Y Y Y Y Y ?_
     exact .fin () (.of (.r Y) .nil)
    intro _
    refine .cond (t:=!(Arr.same (a.getD j default) (b.getD j default))) Y (fun c2=>?_) (fun c2=>?_)
    ·have c2:=(nT id) c2
     refine .seq<|.rs fun k10=>.as Y<|.z<|.ret ?_
     exact fin0 (.inr Y) (.one (svB (show (false)=(all2 Arr.same a b) by exact (all2_fail _ (j:=j) (by omega) (by simpa [] using c2)).symm)) .nil) (.dd .nil) Y
    ·have c2:=(nF id) c2
     refine .skip<|.rs fun k12=>.mv Y<|.bi Y<|.as Y<|.z ?_
     exact .here (j+1) (.of (.cons Y (.cons Y (.cons (svI (show (IntKind.wrap .i64 ((j:Int)+1))=(((j+1):Int)) by first | rfl | omega | exact wrap_le (by omega) (by omega) | (rw [wrap_le (by omega) (by omega)]; omega))) .nil))) .nil) ⟨(show (j+1)≤a.length∧a.length=b.length∧allTo (j+1) (fun i=>Arr.same (a.getD i default) (b.getD i default))=true by exact ⟨by omega,by omega,allTo_step hI.2.2 (by simpa [] using c2)⟩),(show a.length - (j+1) < a.length - j by omega)⟩
   ·have c1:=of_decide_eq_false c1
    refine .exit<|.seq<|.rs fun k13=>.as Y<|.z<|.ret ?_
    exact fin0 (.inr Y) (.one (svB (show (true)=(all2 Arr.same a b) by (have hj:j=a.length:=(by omega); subst hj; exact (all2_done _ hI.2.1 hI.2.2).symm))) .nil) (.dd .nil) Y
theorem c_eqEnv (a:Env) (b:Env):Trip Tryz.prog 16 [(true,3),(true,3)] (Env.c46 a++Env.c46 b) [(false,1)] [.v (.bool (Env.same a b))] []:=by
 refine Trip.of Tryz.func16 (by decide) (c:=_) Y Y (Nat.le_of_ble_eq_true Y) Y (AftOk.nil _)<|.sla (t:=0) 1 Y Y fun hs1l=>.sla (t:=0) 2 Y Y fun hs2l=>.sla (t:=1) 1 Y Y fun hs3l=>.sla (t:=1) 2 Y Y fun hs4l=>.seq<|.rs fun k5=>.g (fun _ τ=>⟨_,.box (.no Y) Y Y Y Y Y τ⟩)<|.g (fun _ τ=>⟨_,.box (.no Y) Y Y Y Y Y τ⟩) ?_
 refine .as Y<|.z<|.seq<|.seq<|.rs fun k6=>.fp t46 t4 Y<|.ld t4 Y (.ptr _ _ _ _ _ Y) Y<|.fp t46 t4 Y<|.ld t4 Y (.ptr _ _ _ _ _ Y) Y ?_
 refine .g (fun _ τ=>⟨_,.neB (.no Y) Y t4 Y Y Y Y Y τ⟩)<|.z ?_
 refine .cond (t:=a.live != b.live) Y (fun c0=>?_) (fun c0=>?_)
 ·have c0:=(by simpa using c0:¬ (a.live=b.live))
  refine .seq<|.rs fun k7=>.as Y<|.z<|.ret ?_
  exact fin0 (.inr Y) (.one (svB (show (false)=(Env.same a b) by (simp_all [Env.same]))) .nil) (.dd .nil) Y
 ·have c0:=(by simpa using c0:a.live=b.live)
  refine .skip<|.seq<|.seq<|.rs fun k9=>.fp t46 t44 Y<|.ld t44 Y (.ptr _ _ _ _ _ Y) Y<|.fp t46 t44 Y<|.ld t44 Y (.ptr _ _ _ _ _ Y) Y<|.c0 (c_eqIntervalS a.ints b.ints) Y (.dd (.dd .nil)) (.own [14,0] .nil) Y ?_
  refine .un Y<|.z ?_
  refine .cond (t:=!(all2 Iv.same a.ints b.ints)) Y (fun c1=>?_) (fun c1=>?_)
  ·have c1:=(nT id) c1
   refine .seq<|.rs fun k10=>.as Y<|.z<|.ret ?_
   exact fin0 (.inr Y) (.one (svB (show (false)=(Env.same a b) by (simp_all [Env.same]))) .nil) (.dd .nil) Y
  ·have c1:=(nF id) c1
   refine .skip<|.seq<|.seq<|.rs fun k12=>.fp t46 t44 Y<|.ld t44 Y (.ptr _ _ _ _ _ Y) Y<|.fp t46 t44 Y<|.ld t44 Y (.ptr _ _ _ _ _ Y) Y<|.c0 (c_eqIntervalS a.arrs b.arrs) Y (.dd (.dd .nil)) (.own [20,0] .nil) Y ?_
   refine .un Y<|.z ?_
   refine .cond (t:=!(all2 Iv.same a.arrs b.arrs)) Y (fun c2=>?_) (fun c2=>?_)
   ·have c2:=(nT id) c2
    refine .seq<|.rs fun k13=>.as Y<|.z<|.ret ?_
    exact fin0 (.inr Y) (.one (svB (show (false)=(Env.same a b) by (simp_all [Env.same]))) .nil) (.dd .nil) Y
   ·have c2:=(nF id) c2
    refine .skip<|.seq<|.rs fun k15=>.as Y<|.z<|.ret ?_
    exact fin0 (.inr Y) (.one (svB (show (true)=(Env.same a b) by (simp_all [Env.same]))) .nil) (.dd .nil) Y
theorem c_eqDecl (a:Decl) (b:Decl):Trip Tryz.prog 14 [(true,3),(true,3)] (Decl.c40 a++Decl.c40 b) [(false,1)] [.v (.bool (Decl.same a b))] []:=by
 refine Trip.of Tryz.func14 (by decide) (c:=_) Y Y (Nat.le_of_ble_eq_true Y) Y (AftOk.nil _)<|.sla (t:=0) 0 Y Y fun hs1l=>.sla (t:=0) 1 Y Y fun hs2l=>.sla (t:=0) 2 Y Y fun hs3l=>.sla (t:=1) 0 Y Y fun hs4l=>.sla (t:=1) 1 Y Y fun hs5l=>.sla (t:=1) 2 Y Y fun hs6l=>.seq<|.rs fun k7=>?_
 refine .g (fun _ τ=>⟨_,.box (.no Y) Y Y Y Y Y τ⟩)<|.g (fun _ τ=>⟨_,.box (.no Y) Y Y Y Y Y τ⟩)<|.as Y<|.z<|.seq<|.seq<|.rs fun k8=>.fp t40 t22 Y<|.ld t22 Y (.ptr _ _ _ _ _ Y) Y ?_
 refine .fp t40 t22 Y<|.ld t22 Y (.ptr _ _ _ _ _ Y) Y<|.c0 (c_eqStringS a.vars b.vars) Y (.dd (.dd .nil)) (.own [9,0] .nil) Y<|.un Y<|.z ?_
 refine .cond (t:=!(all2 strEq a.vars b.vars)) Y (fun c0=>?_) (fun c0=>?_)
 ·have c0:=(nT id) c0
  refine .seq<|.rs fun k9=>.as Y<|.z<|.ret ?_
  exact fin0 (.inr Y) (.one (svB (show (false)=(Decl.same a b) by (simp_all [Decl.same]))) .nil) (.dd .nil) Y
 ·have c0:=(nF id) c0
  refine .skip<|.seq<|.seq<|.rs fun k11=>.fp t40 t22 Y<|.ld t22 Y (.ptr _ _ _ _ _ Y) Y<|.fp t40 t22 Y<|.ld t22 Y (.ptr _ _ _ _ _ Y) Y<|.c0 (c_eqStringS a.flags b.flags) Y (.dd (.dd .nil)) (.own [15,0] .nil) Y ?_
  refine .un Y<|.z ?_
  refine .cond (t:=!(all2 strEq a.flags b.flags)) Y (fun c1=>?_) (fun c1=>?_)
  ·have c1:=(nT id) c1
   refine .seq<|.rs fun k12=>.as Y<|.z<|.ret ?_
   exact fin0 (.inr Y) (.one (svB (show (false)=(Decl.same a b) by (simp_all [Decl.same]))) .nil) (.dd .nil) Y
  ·have c1:=(nF id) c1
   refine .skip<|.seq<|.seq<|.rs fun k14=>.fp t40 t38 Y<|.ld t38 Y (.ptr _ _ _ _ _ Y) Y<|.fp t40 t38 Y<|.ld t38 Y (.ptr _ _ _ _ _ Y) Y<|.c0 (c_eqArrS a.arrays b.arrays) Y (.dd (.dd .nil)) (.own [21,0] .nil) Y ?_
   refine .un Y<|.z ?_
   refine .cond (t:=!(all2 Arr.same a.arrays b.arrays)) Y (fun c2=>?_) (fun c2=>?_)
   ·have c2:=(nT id) c2
    refine .seq<|.rs fun k15=>.as Y<|.z<|.ret ?_
    exact fin0 (.inr Y) (.one (svB (show (false)=(Decl.same a b) by (simp_all [Decl.same]))) .nil) (.dd .nil) Y
   ·have c2:=(nF id) c2
    refine .skip<|.seq<|.rs fun k17=>.as Y<|.z<|.ret ?_
    exact fin0 (.inr Y) (.one (svB (show (true)=(Decl.same a b) by (simp_all [Decl.same]))) .nil) (.dd .nil) Y
end Go.Proofs

namespace Go.Proofs
open Go Go.Proofs Go.Ev

theorem c_l1In (n:Int) (lo:Int) (hi:Int):Trip Tryz.prog 63 [(false,1),(false,1),(false,1)] ([.v (.int .i64 (n))]++[.v (.int .i64 (lo))]++[.v (.int .i64 (hi))]) [(false,1)] [.v (.bool (inR n lo hi))] []:=by
 refine Trip.of Tryz.func63 (by decide) (c:=_) Y Y (Nat.le_of_ble_eq_true Y) Y (AftOk.nil _)<|.seq<|.rs fun k1=>.as Y<|.z<|.seq ?_
 refine .reg (X:=Unit) (fun ζ=>.of [(6,.one (.d (.v (.bool ((decide (n≥lo)&&decide (n≤hi)))))))] []) [⟨[0],some 7,[],[]⟩,⟨[1],some 8,[],[]⟩,⟨[7,8],some 9,[],[]⟩,⟨[9],some 10,[],[]⟩,⟨[10,0],some 11,[],[]⟩,⟨[10,2],some 12,[],[]⟩,⟨[10,11,12],some 13,[],[]⟩,⟨[10,13],some 14,[],[]⟩,⟨[14],some 6,[],[]⟩] (fun k2=>?_) ?_
 ·skip
  refine .move (.no Y) Y Y Y Y<|.move (.no Y) Y Y Y Y<|.bin (.no Y) Y Y Y Y Y Y<|.moveB (.no Y) Y Y Y Y fun b3 g1_3=>?_
  cases b3
  ·skip
   refine .off Y Y Y Y Y Y Y<|.off Y Y Y Y Y Y Y<|.off Y Y Y Y Y Y Y<|.pick (.no Y) Y Y Y Y Y<|.assign (.no Y) Y Y Y Y ?_
   exact .fin () (.of (.cons (svB (show (false)=((decide (n≥lo)&&decide (n≤hi))) by first | (simp only [g1_3,Bool.true_or,Bool.false_or,Bool.true_and,Bool.false_and,Bool.not_true,Bool.not_false]; done) | (simp [g1_3]; done) | (exfalso; simp_all; done))) .nil) .nil)
  ·skip
   refine .move (.on Y Y Y Y Y) Y Y Y Y<|.move (.on Y Y Y Y Y) Y Y Y Y<|.bin (.on Y Y Y Y Y) Y Y Y Y Y Y<|.pick (.no Y) Y Y Y Y Y<|.assign (.no Y) Y Y Y Y ?_
   exact .fin () (.of (.cons (svB (show (decide (n≤hi))=((decide (n≥lo)&&decide (n≤hi))) by first | (simp only [g1_3,Bool.true_or,Bool.false_or,Bool.true_and,Bool.false_and,Bool.not_true,Bool.not_false]; done) | (simp [g1_3]; done) | (exfalso; simp_all; done))) .nil) .nil)
 intro _
 refine .ret ?_
 exact fin0 (.inr Y) (.one (svB (show ((decide (n≥lo)&&decide (n≤hi)))=(inR n lo hi) by (first | rfl | simp_all [inR]))) .nil) (.dd .nil) Y
theorem c_sIvOk (a:Iv):Trip Tryz.prog 53 [(true,2)] (Iv.c a) [(false,1)] [.v (.bool (Iv.ok a))] []:=by
 refine Trip.of Tryz.func53 (by decide) (c:=_) Y Y (Nat.le_of_ble_eq_true Y) Y (AftOk.nil _)<|.seq<|.rs fun k1=>.g (fun _ τ=>⟨_,.box (.no Y) Y Y Y Y Y τ⟩)<|.as Y<|.z<|.seq<|.rs fun k2=>.fp t34 t2 Y ?_
 refine .ld t2 Y (.ptr _ _ _ _ _ Y) Y<|.fp t34 t2 Y<|.ld t2 Y (.ptr _ _ _ _ _ Y) Y<|.bi Y<|.as Y<|.z<|.ret ?_
 exact fin0 (.inr Y) (.one (svB (show (decide (a.lo≤a.hi))=(Iv.ok a) by rfl)) .nil) (.dd .nil) Y
theorem c_l3Key (s:ByteArray):Trip Tryz.prog 121 [(false,1)] ([.v (.string (s))]) [(false,1)] [.v (.bool (isKey s))] []:=by
 refine Trip.of Tryz.func121 (by decide) (c:=_) Y Y (Nat.le_of_ble_eq_true Y) Y (AftOk.nil _)<|.seq<|.rs fun k1=>.as Y<|.z<|.seq<|.rs fun k2=>?_
 refine .g (fun _ τ=>⟨_,.buildSlice (.no Y) Y (els:=[[.v (.string ((⟨#[118,97,114]⟩:ByteArray)))],[.v (.string ((⟨#[102,108,97,103]⟩:ByteArray)))],[.v (.string ((⟨#[97,114,114,97,121]⟩:ByteArray)))],[.v (.string ((⟨#[105,102]⟩:ByteArray)))],[.v (.string ((⟨#[102,111,114,107]⟩:ByteArray)))],[.v (.string ((⟨#[101,108,115,101]⟩:ByteArray)))],[.v (.string ((⟨#[101,110,100]⟩:ByteArray)))],[.v (.string ((⟨#[119,104,105,108,101]⟩:ByteArray)))],[.v (.string ((⟨#[117,110,114,111,108,108]⟩:ByteArray)))],[.v (.string ((⟨#[97,115,115,101,114,116]⟩:ByteArray)))],[.v (.string ((⟨#[97,115,115,117,109,101]⟩:ByteArray)))],[.v (.string ((⟨#[105,110,112,117,116]⟩:ByteArray)))],[.v (.string ((⟨#[115,112,108,105,116]⟩:ByteArray)))],[.v (.string ((⟨#[109,101,114,103,101]⟩:ByteArray)))],[.v (.string ((⟨#[116,114,117,101]⟩:ByteArray)))],[.v (.string ((⟨#[102,97,108,115,101]⟩:ByteArray)))]]) t22 Y z9 Y Y Y Y Y Y Y Y (by simp [i9]) (.cons _ _ _ _ _ _ (.d _) (.cons _ _ _ _ _ _ (.d _) (.cons _ _ _ _ _ _ (.d _) (.cons _ _ _ _ _ _ (.d _) (.cons _ _ _ _ _ _ (.d _) (.cons _ _ _ _ _ _ (.d _) (.cons _ _ _ _ _ _ (.d _) (.cons _ _ _ _ _ _ (.d _) (.cons _ _ _ _ _ _ (.d _) (.cons _ _ _ _ _ _ (.d _) (.cons _ _ _ _ _ _ (.d _) (.cons _ _ _ _ _ _ (.d _) (.cons _ _ _ _ _ _ (.d _) (.cons _ _ _ _ _ _ (.d _) (.cons _ _ _ _ _ _ (.d _) (.cons _ _ _ _ _ _ (.d _) .nil)))))))))))))))) Y Y Y τ⟩) ?_
 refine .as Y<|.z<|.seq<|.seq<|.rs fun k3=>.as Y<|.z<|.block ?_
 refine .loop (X:=Nat × Nat × Nat) (fun ζ=>.of [(0,.one (.d (.v (.string (s))))),(3,.one (.ref [5] (ζ.2.1))),(4,.one (.d (.v (.int .i64 ((ζ.1:Int))))))] [([5],(ζ.2.1,ζ.2.2,.row 9 1 (List.map strc (keys))))]) (fun ζ=>ζ.1≤keys.length∧allTo ζ.1 (fun i=>!strEq (keys.getD i default) s)=true) (fun ζ=>keys.length - ζ.1) ?_ ?_
 ·skip
  exact .here (0,k2,k2) (.of (.cons Y (.cons Y (.cons (svI (show (0)=((0:Int)) by first | rfl | omega | exact wrap_le (by omega) (by omega) | (rw [wrap_le (by omega) (by omega)]; omega))) .nil))) (.cons (rowE (show [[.v (.string ((⟨#[118,97,114]⟩:ByteArray)))],[.v (.string ((⟨#[102,108,97,103]⟩:ByteArray)))],[.v (.string ((⟨#[97,114,114,97,121]⟩:ByteArray)))],[.v (.string ((⟨#[105,102]⟩:ByteArray)))],[.v (.string ((⟨#[102,111,114,107]⟩:ByteArray)))],[.v (.string ((⟨#[101,108,115,101]⟩:ByteArray)))],[.v (.string ((⟨#[101,110,100]⟩:ByteArray)))],[.v (.string ((⟨#[119,104,105,108,101]⟩:ByteArray)))],[.v (.string ((⟨#[117,110,114,111,108,108]⟩:ByteArray)))],[.v (.string ((⟨#[97,115,115,101,114,116]⟩:ByteArray)))],[.v (.string ((⟨#[97,115,115,117,109,101]⟩:ByteArray)))],[.v (.string ((⟨#[105,110,112,117,116]⟩:ByteArray)))],[.v (.string ((⟨#[115,112,108,105,116]⟩:ByteArray)))],[.v (.string ((⟨#[109,101,114,103,101]⟩:ByteArray)))],[.v (.string ((⟨#[116,114,117,101]⟩:ByteArray)))],[.v (.string ((⟨#[102,97,108,115,101]⟩:ByteArray)))]]=List.map strc (keys) by rfl)) .nil)) (show 0≤keys.length∧allTo 0 (fun i=>!strEq (keys.getD i default) s)=true by exact ⟨by omega,rfl⟩)
 ·rintro ⟨j,q4,q5⟩ hI
  have hI:j≤keys.length∧allTo j (fun i=>!strEq (keys.getD i default) s)=true:=hI
  have hk9:keys.length=16:=rfl
  dsimp only
  refine .seq<|.seq<|.rs fun k6=>.mv Y<|.mv Y<|.g (fun _ τ=>⟨_,.len (.no Y) Y (z:=(keys.length:Int)) t22 Y Y Y (.ref _ _ _ _ _ Y) (map_len _ _) Y τ⟩)<|.bi Y<|.z ?_
  refine .cond (t:=decide ((j:Int) < (keys.length:Int))) Y (fun c0=>?_) (fun c0=>?_)
  ·have c0:=of_decide_eq_true c0
   refine .skip<|.seq<|.block<|.seq<|.rs fun k7=>.mv Y<|.mv Y<|.g (fun _ τ=>⟨_,.indexAddr (.no Y) Y (j) t22 Y t9 Y Y Y (.ref _ _ _ _ _ Y) Y Y Y (map_get (by omega)) Y Y τ⟩)<|.ld t9 Y (.eptr _ _ _ _ _ _ _ _ _ Y (map_get (by omega))) Y ?_
   refine .mv Y<|.bi Y<|.z ?_
   refine .cond (t:=(keys.getD j default).toList == s.toList) Y (fun c1=>?_) (fun c1=>?_)
   ·have c1:=c1
    refine .seq<|.rs fun k8=>.as Y<|.z<|.ret ?_
    exact fin0 (.inr Y) (.one (svB (show (true)=(isKey s) by exact (any_found (p:=fun x=>strEq x s) (j:=j) (by omega) c1).symm)) .nil) (.dd .nil) Y
   ·have c1:=c1
    refine .skip<|.rs fun k10=>.mv Y<|.bi Y<|.as Y<|.z ?_
    exact .here ((j+1),q4,q5) (.of (.cons Y (.cons Y (.cons (svI (show (IntKind.wrap .i64 ((j:Int)+1))=(((j+1):Int)) by first | rfl | omega | exact wrap_le (by omega) (by omega) | (rw [wrap_le (by omega) (by omega)]; omega))) .nil))) (.r Y)) ⟨(show (j+1)≤keys.length∧allTo (j+1) (fun i=>!strEq (keys.getD i default) s)=true by exact ⟨by omega,allTo_step hI.2 (by rw [show strEq (keys.getD j default) s=false from c1]; rfl)⟩),(show keys.length - (j+1) < keys.length - j by omega)⟩
  ·have c0:=of_decide_eq_false c0
   refine .exit<|.seq<|.rs fun k11=>.as Y<|.z<|.ret ?_
   exact fin0 (.inr Y) (.one (svB (show (false)=(isKey s) by exact (any_none (p:=fun x=>strEq x s) (j:=j) (by omega) hI.2).symm)) .nil) (.dd .nil) Y
theorem c_l3Name (s:ByteArray) (hs:s.size≤9223372036854775807):Trip Tryz.prog 88 [(false,1)] ([.v (.string (s))]) [(false,1)] [.v (.bool (nmOk s))] []:=by
 refine Trip.of Tryz.func88 (by decide) (c:=_) Y Y (Nat.le_of_ble_eq_true Y) Y (AftOk.nil _)<|.seq<|.rs fun k1=>.as Y<|.z<|.seq<|.seq<|.rs fun k2=>.as Y ?_
 refine .z<|.block ?_
 refine .loop (X:=Nat) (fun ζ=>.of [(0,.one (.d (.v (.string (s))))),(3,.one (.d (.v (.int .i64 ((ζ:Int))))))] []) (fun ζ=>ζ≤s.size∧allTo ζ (fun i=>decide (97≤byteAt s i∧byteAt s i≤122))=true) (fun ζ=>s.size - ζ) ?_ ?_
 ·skip
  exact .here 0 (.of (.cons Y (.cons (svI (show (0)=((0:Int)) by first | rfl | omega | exact wrap_le (by omega) (by omega) | (rw [wrap_le (by omega) (by omega)]; omega))) .nil)) .nil) (show 0≤s.size∧allTo 0 (fun i=>decide (97≤byteAt s i∧byteAt s i≤122))=true by exact ⟨by omega,rfl⟩)
 ·rintro j hI
  have hI:j≤s.size∧allTo j (fun i=>decide (97≤byteAt s i∧byteAt s i≤122))=true:=hI
  refine .seq<|.seq<|.rs fun k3=>.mv Y<|.mv Y<|.g (fun _ τ=>⟨_,.lenStr (.no Y) Y t9 Y Y Y Y Y τ⟩)<|.bi Y<|.z ?_
  refine .cond (t:=decide ((j:Int) < (s.size:Int))) Y (fun c0=>?_) (fun c0=>?_)
  ·have c0:=of_decide_eq_true c0
   refine .skip<|.seq<|.block<|.seq ?_
   refine .reg (X:=Unit) (fun ζ=>.of [(0,.one (.d (.v (.string (s))))),(3,.one (.d (.v (.int .i64 ((j:Int)))))),(19,.one (.d (.v (.bool ((decide ((byteAt s j) < 97)||decide ((byteAt s j) > 122)))))))] []) [⟨[0],some 10,[],[]⟩,⟨[3],some 11,[],[]⟩,⟨[10,11],some 12,[],[]⟩,⟨[12],some 13,[],[]⟩,⟨[13],some 14,[],[]⟩,⟨[14,0],some 15,[],[]⟩,⟨[14,3],some 16,[],[]⟩,⟨[14,15,16],some 17,[],[]⟩,⟨[14,17],some 18,[],[]⟩,⟨[14,18],some 19,[],[]⟩] (fun k4=>?_) ?_
   ·skip
    refine .move (.no Y) Y Y Y Y<|.move (.no Y) Y Y Y Y<|.indexStr (.no Y) Y (z:=byteAt s j) (j) t9 Y Y Y Y Y (b8_get (by omega)) Y Y<|.bin (.no Y) Y Y Y Y Y Y<|.moveB (.no Y) Y Y Y Y fun b5 g4_4=>?_
    cases b5
    ·skip
     refine .move (.on Y Y Y Y Y) Y Y Y Y<|.move (.on Y Y Y Y Y) Y Y Y Y<|.indexStr (.on Y Y Y Y Y) Y (z:=byteAt s j) (j) t9 Y Y Y Y Y (b8_get (by omega)) Y Y<|.bin (.on Y Y Y Y Y) Y Y Y Y Y Y<|.pick (.no Y) Y Y Y Y Y ?_
     exact .fin () (.of (.cons Y (.cons Y (.cons (svB (show (decide ((byteAt s j) > 122))=((decide ((byteAt s j) < 97)||decide ((byteAt s j) > 122))) by first | (simp only [g4_4,Bool.true_or,Bool.false_or,Bool.true_and,Bool.false_and,Bool.not_true,Bool.not_false]; done) | (simp [g4_4]; done) | (exfalso; simp_all; done))) .nil))) .nil)
    ·skip
     refine .off Y Y Y Y Y Y Y<|.off Y Y Y Y Y Y Y<|.off Y Y Y Y Y Y Y<|.off Y Y Y Y Y Y Y<|.pick (.no Y) Y Y Y Y Y ?_
     exact .fin () (.of (.cons Y (.cons Y (.cons (svB (show (true)=((decide ((byteAt s j) < 97)||decide ((byteAt s j) > 122))) by first | (simp only [g4_4,Bool.true_or,Bool.false_or,Bool.true_and,Bool.false_and,Bool.not_true,Bool.not_false]; done) | (simp [g4_4]; done) | (exfalso; simp_all; done))) .nil))) .nil)
   intro _
   refine .cond (t:=(decide ((byteAt s j) < 97)||decide ((byteAt s j) > 122))) Y (fun c1=>?_) (fun c1=>?_)
   ·have c1:=(oT dT dT) c1
    refine .seq<|.rs fun k6=>.as Y<|.z<|.ret ?_
    exact fin0 (.inr Y) (.one (svB (show (false)=(nmOk s) by (simp only [nmOk,letters]; rw [allTo_fail (j:=j) (by omega) (by have h9:=byteAt_le s j; simp only [decide_eq_false_iff_not]; omega)]; rfl))) .nil) (.dd .nil) Y
   ·have c1:=(oF dF dF) c1
    refine .skip<|.rs fun k8=>.mv Y<|.bi Y<|.as Y<|.z ?_
    exact .here (j+1) (.of (.cons Y (.cons (svI (show (IntKind.wrap .i64 ((j:Int)+1))=(((j+1):Int)) by first | rfl | omega | exact wrap_le (by omega) (by omega) | (rw [wrap_le (by omega) (by omega)]; omega))) .nil)) .nil) ⟨(show (j+1)≤s.size∧allTo (j+1) (fun i=>decide (97≤byteAt s i∧byteAt s i≤122))=true by exact ⟨by omega,allTo_step hI.2 (by simp only [decide_eq_true_eq]; omega)⟩),(show s.size - (j+1) < s.size - j by omega)⟩
  ·have c0:=of_decide_eq_false c0
   refine .exit<|.seq ?_
   refine .reg (X:=Unit) (fun ζ=>.of [(2,.one (.d (.v (.bool ((inR (s.size:Int) 1 8&&!(isKey s)))))))] []) [⟨[0],some 20,[],[]⟩,⟨[20],some 21,[],[]⟩,⟨[21],some 22,[],[]⟩,⟨[22],some 23,[],[]⟩,⟨[23,0],some 24,[],[]⟩,⟨[23,24],some 25,[],[]⟩,⟨[23,25],some 26,[],[]⟩,⟨[23,26],some 27,[],[]⟩,⟨[27],some 2,[],[]⟩] (fun k9=>?_) ?_
   ·skip
    refine .move (.no Y) Y Y Y Y<|.lenStr (.no Y) Y t9 Y Y Y Y Y<|.call (.no Y) Y [] [] (c_l1In (s.size:Int) 1 8) Y Y Y Y Y (.dd (.dd (.dd .nil))) Y Y (fun h=>absurd Y h) (.own [22,0] .nil) (.nil) Y Y Y (by simp) Y Y Y<|.moveB (.no Y) Y Y Y Y fun b10 g6_3=>?_
    cases b10
    ·skip
     refine .off Y Y Y Y Y Y Y<|.off Y Y Y Y Y Y Y<|.off Y Y Y Y Y Y Y<|.pick (.no Y) Y Y Y Y Y<|.assign (.no Y) Y Y Y Y ?_
     exact .fin () (.of (.cons (svB (show (false)=((inR (s.size:Int) 1 8&&!(isKey s))) by first | (simp only [g6_3,Bool.true_or,Bool.false_or,Bool.true_and,Bool.false_and,Bool.not_true,Bool.not_false]; done) | (simp [g6_3]; done) | (exfalso; simp_all; done))) .nil) .nil)
    ·skip
     refine .move (.on Y Y Y Y Y) Y Y Y Y<|.call (.on Y Y Y Y Y) Y [] [] (c_l3Key s) Y Y Y Y Y (.dd .nil) Y Y (fun h=>absurd Y h) (.own [25,0] .nil) (.nil) Y Y Y (by simp) Y Y Y<|.un (.on Y Y Y Y Y) Y Y Y Y Y<|.pick (.no Y) Y Y Y Y Y<|.assign (.no Y) Y Y Y Y ?_
     exact .fin () (.of (.cons (svB (show (!(isKey s))=((inR (s.size:Int) 1 8&&!(isKey s))) by first | (simp only [g6_3,Bool.true_or,Bool.false_or,Bool.true_and,Bool.false_and,Bool.not_true,Bool.not_false]; done) | (simp [g6_3]; done) | (exfalso; simp_all; done))) .nil) .nil)
   intro _
   refine .ret ?_
   exact fin0 (.inr Y) (.one (svB (show ((inR (s.size:Int) 1 8&&!(isKey s)))=(nmOk s) by (have hj:j=s.size:=(by omega); subst hj; simp only [nmOk,letters]; rw [hI.2]; first | rfl | simp_all))) .nil) (.dd .nil) Y
theorem c_l3Place (l:List ByteArray) (s:ByteArray):Trip Tryz.prog 89 [(false,1),(false,1)] ([.sl false 9 1 (List.map strc (l))]++[.v (.string (s))]) [(false,1)] [.v (.int .i64 (place l s))] []:=by
 refine Trip.of Tryz.func89 (by decide) (c:=_) Y Y (Nat.le_of_ble_eq_true Y) Y (AftOk.nil _)<|.sl (t:=0) Y fun hs1l=>.seq<|.rs fun k2=>.as Y<|.z<|.seq<|.seq<|.rs fun k3=>?_
 refine .as Y<|.z<|.block ?_
 refine .loop (X:=Nat) (fun ζ=>.of [(0,.one (.d (.sl false 9 1 (List.map strc (l))))),(1,.one (.d (.v (.string (s))))),(5,.one (.d (.v (.int .i64 ((ζ:Int))))))] []) (fun ζ=>ζ≤l.length∧allTo ζ (fun i=>!strEq (l.getD i default) s)=true) (fun ζ=>l.length - ζ) ?_ ?_
 ·skip
  exact .here 0 (.of (.cons Y (.cons Y (.cons (svI (show (0)=((0:Int)) by first | rfl | omega | exact wrap_le (by omega) (by omega) | (rw [wrap_le (by omega) (by omega)]; omega))) .nil))) .nil) (show 0≤l.length∧allTo 0 (fun i=>!strEq (l.getD i default) s)=true by exact ⟨by omega,rfl⟩)
 ·rintro j hI
  have hI:j≤l.length∧allTo j (fun i=>!strEq (l.getD i default) s)=true:=hI
  refine .seq<|.seq<|.rs fun k4=>.mv Y<|.mv Y<|.g (fun _ τ=>⟨_,.len (.no Y) Y (z:=(l.length:Int)) t22 Y Y Y (.d _ _) (map_len _ _) Y τ⟩)<|.bi Y<|.z ?_
  refine .cond (t:=decide ((j:Int) < (l.length:Int))) Y (fun c0=>?_) (fun c0=>?_)
  ·have c0:=of_decide_eq_true c0
   refine .skip<|.seq<|.block<|.seq<|.rs fun k5=>.mv Y<|.mv Y<|.g (fun _ τ=>⟨_,.indexAddr (.no Y) Y (j) t22 Y t9 Y Y Y (.d _ _) Y Y Y (map_get (by omega)) Y Y τ⟩)<|.ld t9 Y (.d _) Y ?_
   refine .mv Y<|.bi Y<|.z ?_
   refine .cond (t:=(l.getD j default).toList == s.toList) Y (fun c1=>?_) (fun c1=>?_)
   ·have c1:=c1
    refine .seq<|.rs fun k6=>.mv Y<|.as Y<|.z<|.ret ?_
    exact fin0 (.inr Y) (.one (svI (show ((j:Int))=(place l s) by exact (idx_found (p:=fun x=>strEq x s) (by omega) hI.2 c1).symm)) .nil) (.dd .nil) Y
   ·have c1:=c1
    refine .skip<|.rs fun k8=>.mv Y<|.bi Y<|.as Y<|.z ?_
    exact .here (j+1) (.of (.cons Y (.cons Y (.cons (svI (show (IntKind.wrap .i64 ((j:Int)+1))=(((j+1):Int)) by first | rfl | omega | exact wrap_le (by omega) (by omega) | (rw [wrap_le (by omega) (by omega)]; omega))) .nil))) .nil) ⟨(show (j+1)≤l.length∧allTo (j+1) (fun i=>!strEq (l.getD i default) s)=true by exact ⟨by omega,allTo_step hI.2 (by rw [show strEq (l.getD j default) s=false from c1]; rfl)⟩),(show l.length - (j+1) < l.length - j by omega)⟩
  ·have c0:=of_decide_eq_false c0
   refine .exit<|.seq<|.rs fun k9=>.as Y<|.z<|.ret ?_
   exact fin0 (.inr Y) (.one (svI (show (-1)=(place l s) by exact (idx_none (p:=fun x=>strEq x s) (j:=j) (by omega) hI.2).symm)) .nil) (.dd .nil) Y
theorem c_l6List (e:Env) (hb:e.ints.length≤1048576∧e.arrs.length≤1048576):Trip Tryz.prog 52 [(true,3)] (Env.c46 e) [(false,1)] [.sl true 34 2 (List.map Iv.c (e.ints++e.arrs))] []:=by
 refine Trip.of Tryz.func52 (by decide) (c:=_) Y Y (Nat.le_of_ble_eq_true Y) Y (AftOk.nil _)<|.sla (t:=0) 1 Y Y fun hs1l=>.sla (t:=0) 2 Y Y fun hs2l=>.seq<|.rs fun k3=>.g (fun _ τ=>⟨_,.box (.no Y) Y Y Y Y Y τ⟩)<|.as Y<|.z<|.seq ?_
 refine .regD (X:=Nat) (by kernel_rfl) (fun ζ=>.of [(2,.one (.ref [3] (ζ)))] [([3],(ζ,ζ,.row 34 2 (List.map Iv.c (e.ints++e.arrs))))]) [⟨[],some 3,[],[[3]]⟩,⟨[1],some 4,[],[]⟩,⟨[4],some 5,[[1]],[]⟩,⟨[3,5],some 6,[[3]],[[3]]⟩,⟨[1],some 7,[],[]⟩,⟨[7],some 8,[[1]],[]⟩,⟨[6,8],some 9,[[3]],[[3]]⟩,⟨[9],some 2,[],[]⟩] (by kernel_rfl) (fun k4=>?_) ?_
 ·skip
  refine .buildSlice (.no Y) Y (els:=[]) t44 Y z34 Y Y Y Y Y Y Y Y (by simp [i34]) .nil Y Y Y<|.fieldAddrP (.no Y) Y t46 Y Y t44 Y Y Y Y<|.load (.no Y) Y t44 Y Y (.ptr _ _ _ _ _ Y) Y Y Y Y<|.append (.no Y) Y (l3:=List.map Iv.c (e.ints)) t44 Y z34 Y Y Y Y Y Y Y Y (.ref _ _ _ _ Y) (.ro _ _) Y (by simp [i34]; omega) (List.nil_append _) Y Y<|.fieldAddrP (.no Y) Y t46 Y Y t44 Y Y Y Y<|.load (.no Y) Y t44 Y Y (.ptr _ _ _ _ _ Y) Y Y Y Y<|.append (.no Y) Y (l3:=List.map Iv.c (e.ints++e.arrs)) t44 Y z34 Y Y Y Y Y Y Y Y (.ref _ _ _ _ Y) (.ro _ _) Y (by simp [i34]; omega) (map_app _ _ _) Y Y<|.assign (.no Y) Y Y Y Y ?_
  exact .fin (k4+1+1+1+1+1+1) (.of (.r Y) (.r Y))
 intro g5
 refine .ret ?_
 exact fin1 (.inr Y) [] [([3],(g5,g5,.row 34 2 (List.map Iv.c (e.ints++e.arrs))))] (.one Y .nil) (.cons (.ref (.head _)) .nil) Y Y (.r Y)
end Go.Proofs

namespace Go.Proofs
open Go Go.Proofs Go.Ev

theorem c_sDeclOk (d:Decl) (hs:∀ x∈Decl.names d,x.size≤9223372036854775807) (hb:d.vars.length≤1048576∧d.flags.length≤1048576∧d.arrays.length≤1048576):Trip Tryz.prog 51 [(true,3)] (Decl.c40 d) [(false,1)] [.v (.bool (Decl.ok d))] []:=by
 refine Trip.of Tryz.func51 (by decide) (c:=_) Y Y (Nat.le_of_ble_eq_true Y) Y (AftOk.nil _)<|.sla (t:=0) 0 Y Y fun hs1l=>.sla (t:=0) 1 Y Y fun hs2l=>.sla (t:=0) 2 Y Y fun hs3l=>.seq<|.rs fun k4=>.g (fun _ τ=>⟨_,.box (.no Y) Y Y Y Y Y τ⟩)<|.as Y<|.z ?_
 refine .seq<|.seq ?_
 refine .reg (X:=Unit) (fun ζ=>.of [(1,.one (.ptr [1] (k4) 0)),(21,.one (.d (.v (.bool (((decide ((d.vars.length:Int) > 5)||decide ((d.flags.length:Int) > 3))||decide ((d.arrays.length:Int) > 2)))))))] [([1],(k4,k4,.box [.d (.sl false 9 1 (List.map strc (d.vars))),.d (.sl false 9 1 (List.map strc (d.flags))),.d (.sl false 120 2 (List.map Arr.c (d.arrays)))]))]) [⟨[1],some 6,[],[]⟩,⟨[6],some 7,[[1]],[]⟩,⟨[7],some 8,[],[]⟩,⟨[8],some 9,[],[]⟩,⟨[9],some 10,[],[]⟩,⟨[10,1],some 11,[],[]⟩,⟨[10,11],some 12,[[1]],[]⟩,⟨[10,12],some 13,[],[]⟩,⟨[10,13],some 14,[],[]⟩,⟨[10,14],some 15,[],[]⟩,⟨[15],some 16,[],[]⟩,⟨[16,1],some 17,[],[]⟩,⟨[16,17],some 18,[[1]],[]⟩,⟨[16,18],some 19,[],[]⟩,⟨[16,19],some 20,[],[]⟩,⟨[16,20],some 21,[],[]⟩] (fun k5=>?_) ?_
 ·skip
  refine .fieldAddrP (.no Y) Y t40 Y Y t22 Y Y Y Y<|.load (.no Y) Y t22 Y Y (.ptr _ _ _ _ _ Y) Y Y Y Y<|.len (.no Y) Y (z:=(d.vars.length:Int)) t22 Y Y Y (.d _ _) (map_len _ _) Y<|.bin (.no Y) Y Y Y Y Y Y<|.moveB (.no Y) Y Y Y Y fun b6 g1_4=>?_
  cases b6
  ·skip
   refine .fieldAddrP (.on Y Y Y Y Y) Y t40 Y Y t22 Y Y Y Y<|.load (.on Y Y Y Y Y) Y t22 Y Y (.ptr _ _ _ _ _ Y) Y Y Y Y<|.len (.on Y Y Y Y Y) Y (z:=(d.flags.length:Int)) t22 Y Y Y (.d _ _) (map_len _ _) Y<|.bin (.on Y Y Y Y Y) Y Y Y Y Y Y<|.pick (.no Y) Y Y Y Y Y<|.moveB (.no Y) Y Y Y Y fun b7 g1_10=>?_
   cases b7
   ·skip
    refine .fieldAddrP (.on Y Y Y Y Y) Y t40 Y Y t38 Y Y Y Y<|.load (.on Y Y Y Y Y) Y t38 Y Y (.ptr _ _ _ _ _ Y) Y Y Y Y<|.len (.on Y Y Y Y Y) Y (z:=(d.arrays.length:Int)) t38 Y Y Y (.d _ _) (map_len _ _) Y<|.bin (.on Y Y Y Y Y) Y Y Y Y Y Y<|.pick (.no Y) Y Y Y Y Y ?_
    exact .fin () (.of (.cons Y (.cons (svB (show (decide ((d.arrays.length:Int) > 2))=(((decide ((d.vars.length:Int) > 5)||decide ((d.flags.length:Int) > 3))||decide ((d.arrays.length:Int) > 2))) by first | (simp only [g1_4,g1_10,Bool.true_or,Bool.false_or,Bool.true_and,Bool.false_and,Bool.not_true,Bool.not_false]; done) | (simp [g1_4,g1_10]; done) | (exfalso; simp_all; done))) .nil)) (.r Y))
   ·skip
    refine .off Y Y Y Y Y Y Y<|.off Y Y Y Y Y Y Y<|.off Y Y Y Y Y Y Y<|.off Y Y Y Y Y Y Y<|.pick (.no Y) Y Y Y Y Y ?_
    exact .fin () (.of (.cons Y (.cons (svB (show (true)=(((decide ((d.vars.length:Int) > 5)||decide ((d.flags.length:Int) > 3))||decide ((d.arrays.length:Int) > 2))) by first | (simp only [g1_4,g1_10,Bool.true_or,Bool.false_or,Bool.true_and,Bool.false_and,Bool.not_true,Bool.not_false]; done) | (simp [g1_4,g1_10]; done) | (exfalso; simp_all; done))) .nil)) (.r Y))
  ·skip
   refine .off Y Y Y Y Y Y Y<|.off Y Y Y Y Y Y Y<|.off Y Y Y Y Y Y Y<|.off Y Y Y Y Y Y Y<|.pick (.no Y) Y Y Y Y Y<|.move (.no Y) Y Y Y Y<|.off Y Y Y Y Y Y Y<|.off Y Y Y Y Y Y Y<|.off Y Y Y Y Y Y Y ?_
   refine .off Y Y Y Y Y Y Y<|.pick (.no Y) Y Y Y Y Y ?_
   exact .fin () (.of (.cons Y (.cons (svB (show (true)=(((decide ((d.vars.length:Int) > 5)||decide ((d.flags.length:Int) > 3))||decide ((d.arrays.length:Int) > 2))) by first | (simp only [g1_4,Bool.true_or,Bool.false_or,Bool.true_and,Bool.false_and,Bool.not_true,Bool.not_false]; done) | (simp [g1_4]; done) | (exfalso; simp_all; done))) .nil)) (.r Y))
 intro _
 refine .cond (t:=((decide ((d.vars.length:Int) > 5)||decide ((d.flags.length:Int) > 3))||decide ((d.arrays.length:Int) > 2))) Y (fun c0=>?_) (fun c0=>?_)
 ·have c0:=(oT (oT dT dT) dT) c0
  refine .seq<|.rs fun k8=>.as Y<|.z<|.ret ?_
  exact fin0 (.inr Y) (.one (svB (show (false)=(Decl.ok d) by exact (Decl.ok_ne (by omega)).symm)) .nil) (.dd .nil) Y
 ·have c0:=(oF (oF dF dF) dF) c0
  refine .skip<|.seq ?_
  refine .regD (X:=Nat) (by kernel_rfl) (fun ζ=>.of [(1,.one (.ptr [1] (k4) 0)),(3,.one (.ref [22] (ζ)))] [([1],(k4,k4,.box [.d (.sl false 9 1 (List.map strc (d.vars))),.d (.sl false 9 1 (List.map strc (d.flags))),.d (.sl false 120 2 (List.map Arr.c (d.arrays)))])),([22],(ζ,ζ,.row 9 1 (List.map strc (d.vars++d.flags))))]) [⟨[],some 22,[],[[22]]⟩,⟨[1],some 23,[],[]⟩,⟨[23],some 24,[[1]],[]⟩,⟨[22,24],some 25,[[22]],[[22]]⟩,⟨[1],some 26,[],[]⟩,⟨[26],some 27,[[1]],[]⟩,⟨[25,27],some 28,[[22]],[[22]]⟩,⟨[28],some 3,[],[]⟩] (by kernel_rfl) (fun k10=>?_) ?_
  ·skip
   refine .buildSlice (.no Y) Y (els:=[]) t22 Y z9 Y Y Y Y Y Y Y Y (by simp [i9]) .nil Y Y Y<|.fieldAddrP (.no Y) Y t40 Y Y t22 Y Y Y Y<|.load (.no Y) Y t22 Y Y (.ptr _ _ _ _ _ Y) Y Y Y Y<|.append (.no Y) Y (l3:=List.map strc (d.vars)) t22 Y z9 Y Y Y Y Y Y Y Y (.ref _ _ _ _ Y) (.ro _ _) Y (by simp [i9]; omega) (List.nil_append _) Y Y<|.fieldAddrP (.no Y) Y t40 Y Y t22 Y Y Y Y<|.load (.no Y) Y t22 Y Y (.ptr _ _ _ _ _ Y) Y Y Y Y<|.append (.no Y) Y (l3:=List.map strc (d.vars++d.flags)) t22 Y z9 Y Y Y Y Y Y Y Y (.ref _ _ _ _ Y) (.ro _ _) Y (by simp [i9]; omega) (map_app _ _ _) Y Y<|.assign (.no Y) Y Y Y Y ?_
   exact .fin (k10+1+1+1+1+1+1) (.of (.r Y) (.r Y))
  intro g11
  refine .seq<|.seq<|.rs fun k12=>.as Y<|.z<|.block ?_
  refine .loop (X:=Nat × Nat × Nat) (fun ζ=>.of [(1,.one (.ptr [1] (k4) 0)),(3,.one (.ref [22] (ζ.2.1))),(4,.one (.d (.v (.int .i64 ((ζ.1:Int))))))] [([1],(k4,k4,.box [.d (.sl false 9 1 (List.map strc (d.vars))),.d (.sl false 9 1 (List.map strc (d.flags))),.d (.sl false 120 2 (List.map Arr.c (d.arrays)))])),([22],(ζ.2.1,ζ.2.2,.row 9 1 (List.map strc (d.vars++d.flags++(d.arrays.take ζ.1).map Arr.name))))]) (fun ζ=>ζ.1≤d.arrays.length∧allTo ζ.1 (fun i=>inR (d.arrays.getD i default).size 1 16)=true) (fun ζ=>d.arrays.length - ζ.1) ?_ ?_
  ·skip
   exact .here (0,g11,g11) (.of (.cons Y (.cons Y (.cons (svI (show (0)=((0:Int)) by first | rfl | omega | exact wrap_le (by omega) (by omega) | (rw [wrap_le (by omega) (by omega)]; omega))) .nil))) (.cons Y (.cons (rowE (show List.map strc (d.vars++d.flags)=List.map strc (d.vars++d.flags++(d.arrays.take 0).map Arr.name) by first | (simp; done) | (rw [List.append_assoc (d.vars++d.flags),take_step (f:=Arr.name) (by omega)]) | (simp only [Decl.names]; rw [List.take_of_length_le (by omega)]))) .nil))) (show 0≤d.arrays.length∧allTo 0 (fun i=>inR (d.arrays.getD i default).size 1 16)=true by exact ⟨by omega,rfl⟩)
  ·rintro ⟨j,q13,q14⟩ hI
   have hI:j≤d.arrays.length∧allTo j (fun i=>inR (d.arrays.getD i default).size 1 16)=true:=hI
   dsimp only
   refine .seq<|.seq<|.rs fun k15=>.mv Y<|.fp t40 t38 Y<|.ld t38 Y (.ptr _ _ _ _ _ Y) Y<|.g (fun _ τ=>⟨_,.len (.no Y) Y (z:=(d.arrays.length:Int)) t38 Y Y Y (.d _ _) (map_len _ _) Y τ⟩)<|.bi Y<|.z ?_
   refine .cond (t:=decide ((j:Int) < (d.arrays.length:Int))) Y (fun c1=>?_) (fun c1=>?_)
   ·have c1:=of_decide_eq_true c1
    refine .skip<|.seq<|.block<|.seq<|.seq<|.rs fun k16=>.fp t40 t38 Y<|.ld t38 Y (.ptr _ _ _ _ _ Y) Y<|.mv Y ?_
    refine .g (fun _ τ=>⟨_,.indexAddr (.no Y) Y (j) t38 Y t120 Y Y Y (.d _ _) Y Y Y (map_get (by omega)) Y Y τ⟩)<|.g (fun _ τ=>⟨_,.fieldAddr (.no Y) Y t120 Y Y t2 Y Y Y Y [] (by simp) (by intro _ _ _ h; cases h) Y Y τ⟩)<|.ld t2 Y (.d _) Y<|.c0 (c_l1In ((d.arrays.getD j default).size) 1 16) Y (.dd (.dd (.dd .nil))) (.own [42,0] .nil) Y<|.un Y<|.z ?_
    refine .cond (t:=!(inR ((d.arrays.getD j default).size) 1 16)) Y (fun c2=>?_) (fun c2=>?_)
    ·have c2:=(nT id) c2
     refine .seq<|.rs fun k17=>.as Y<|.z<|.ret ?_
     exact fin0 (.inr Y) (.one (svB (show (false)=(Decl.ok d) by exact (Decl.ok_size (j:=j) (by omega) c2).symm)) .nil) (.dd .nil) Y
    ·have c2:=(nF id) c2
     refine .skip<|.rs fun k19=>.mv Y<|.fp t40 t38 Y<|.ld t38 Y (.ptr _ _ _ _ _ Y) Y<|.mv Y<|.g (fun _ τ=>⟨_,.indexAddr (.no Y) Y (j) t38 Y t120 Y Y Y (.d _ _) Y Y Y (map_get (by omega)) Y Y τ⟩)<|.g (fun _ τ=>⟨_,.fieldAddr (.no Y) Y t120 Y Y t9 Y Y Y Y [] (by simp) (by intro _ _ _ h; cases h) Y Y τ⟩)<|.ld t9 Y (.d _) Y ?_
     refine .g (fun _ τ=>⟨_,.buildSlice (.no Y) Y (els:=[[.v (.string ((d.arrays.getD j default).name))]]) t22 Y z9 Y Y Y Y Y Y Y Y (by simp [i9]) (.cons _ _ _ _ _ _ (.d _) .nil) Y Y Y τ⟩)<|.g (fun _ τ=>⟨_,.append (.no Y) Y (l3:=List.map strc (d.vars++d.flags++(d.arrays.take j).map Arr.name++[(d.arrays.getD j default).name])) t22 Y z9 Y Y Y Y Y Y Y Y (.ref _ _ _ _ Y) (.take _ _ _ _ _ Y) Y (by simp [i9]; omega) (map_snoc _ _ _) Y Y τ⟩)<|.as Y<|.z<|.rs fun k20=>.mv Y<|.bi Y<|.as Y<|.z ?_
     exact .here ((j+1),(k19+1+1+1+1+1+1+1+1),(k19+1+1+1+1+1+1+1+1)) (.of (.cons Y (.cons (by show SV.one (.ref [22] (k19+1+1+1+1+1+1+1+1))=SV.one (.ref [22] ((k19+1+1+1+1+1+1+1+1))); first | rfl | simp_all) (.cons (svI (show (IntKind.wrap .i64 ((j:Int)+1))=(((j+1):Int)) by first | rfl | omega | exact wrap_le (by omega) (by omega) | (rw [wrap_le (by omega) (by omega)]; omega))) .nil))) (.cons Y (.cons (rowE (show List.map strc (d.vars++d.flags++(d.arrays.take j).map Arr.name++[(d.arrays.getD j default).name])=List.map strc (d.vars++d.flags++(d.arrays.take (j+1)).map Arr.name) by first | (simp; done) | (rw [List.append_assoc (d.vars++d.flags),take_step (f:=Arr.name) (by omega)]) | (simp only [Decl.names]; rw [List.take_of_length_le (by omega)]))) .nil))) ⟨(show (j+1)≤d.arrays.length∧allTo (j+1) (fun i=>inR (d.arrays.getD i default).size 1 16)=true by exact ⟨by omega,allTo_step hI.2 (by simpa using c2)⟩),(show d.arrays.length - (j+1) < d.arrays.length - j by omega)⟩
   ·have c1:=of_decide_eq_false c1
    refine .exit<|.seq<|.seq<|.rs fun k21=>.as Y<|.z<|.block ?_
    refine .loop (X:=Nat × Nat × Nat) (fun ζ=>.of [(3,.one (.ref [22] (ζ.2.1))),(5,.one (.d (.v (.int .i64 ((ζ.1:Int))))))] [([22],(ζ.2.1,ζ.2.2,.row 9 1 (List.map strc (Decl.names d))))]) (fun ζ=>ζ.1≤(Decl.names d).length∧allTo ζ.1 (nameOk (Decl.names d))=true) (fun ζ=>(Decl.names d).length - ζ.1) ?_ ?_
    ·skip
     exact .here (0,q13,q14) (.of (.cons Y (.cons (svI (show (0)=((0:Int)) by first | rfl | omega | exact wrap_le (by omega) (by omega) | (rw [wrap_le (by omega) (by omega)]; omega))) .nil)) (.cons (rowE (show List.map strc (d.vars++d.flags++(d.arrays.take j).map Arr.name)=List.map strc (Decl.names d) by first | (simp; done) | (rw [List.append_assoc (d.vars++d.flags),take_step (f:=Arr.name) (by omega)]) | (simp only [Decl.names]; rw [List.take_of_length_le (by omega)]))) .nil)) (show 0≤(Decl.names d).length∧allTo 0 (nameOk (Decl.names d))=true by exact ⟨by omega,rfl⟩)
    ·rintro ⟨i,q22,q23⟩ hI
     have hI:i≤(Decl.names d).length∧allTo i (nameOk (Decl.names d))=true:=hI
     have hI0:=‹j≤d.arrays.length∧_›
     have hn9:(Decl.names d).length≤3145728:=by simp [Decl.names]; omega
     dsimp only
     refine .seq<|.seq<|.rs fun k24=>.mv Y<|.mv Y<|.g (fun _ τ=>⟨_,.len (.no Y) Y (z:=((Decl.names d).length:Int)) t22 Y Y Y (.ref _ _ _ _ _ Y) (map_len _ _) Y τ⟩)<|.bi Y<|.z ?_
     refine .cond (t:=decide ((i:Int) < ((Decl.names d).length:Int))) Y (fun c3=>?_) (fun c3=>?_)
     ·have c3:=of_decide_eq_true c3
      refine .skip<|.seq<|.block<|.seq ?_
      refine .regD (X:=Unit) (by kernel_rfl) (fun ζ=>.of [(3,.one (.ref [22] (q22))),(5,.one (.d (.v (.int .i64 ((i:Int)))))),(75,.one (.d (.v (.bool ((!(nmOk ((Decl.names d).getD (i) default))||decide ((place ((Decl.names d).take i) ((Decl.names d).getD (i) default))≥0)))))))] [([22],(q22,q23,.row 9 1 (List.map strc (Decl.names d))))]) [⟨[3],some 59,[],[]⟩,⟨[5],some 60,[],[]⟩,⟨[59,60],some 61,[[22]],[]⟩,⟨[61],some 62,[[22]],[]⟩,⟨[62],some 63,[],[]⟩,⟨[63],some 64,[],[]⟩,⟨[64],some 65,[],[]⟩,⟨[65,3],some 66,[],[]⟩,⟨[65,5],some 67,[],[]⟩,⟨[65,66,67],some 68,[[22]],[]⟩,⟨[65,3],some 69,[],[]⟩,⟨[65,5],some 70,[],[]⟩,⟨[65,69,70],some 71,[[22]],[]⟩,⟨[65,71],some 72,[[22]],[]⟩,⟨[65,68,72],some 73,[[22]],[]⟩,⟨[65,73],some 74,[],[]⟩,⟨[65,74],some 75,[],[]⟩] (by kernel_rfl) (fun k25=>?_) ?_
      ·skip
       refine .move (.no Y) Y Y Y Y<|.move (.no Y) Y Y Y Y<|.indexAddr (.no Y) Y (i) t22 Y t9 Y Y Y (.ref _ _ _ _ _ Y) Y Y Y (map_get (by omega)) Y Y<|.load (.no Y) Y t9 Y Y (.eptr _ _ _ _ _ _ _ _ _ Y (map_get (by omega))) Y Y Y Y<|.call (.no Y) Y [] [] (c_l3Name ((Decl.names d).getD (i) default) (by exact hs _ (getD_mem (by omega)))) Y Y Y Y Y (.dd .nil) Y Y (fun h=>absurd Y h) (.own [63,0] .nil) (.nil) Y Y Y (by simp) Y Y Y<|.un (.no Y) Y Y Y Y Y<|.moveB (.no Y) Y Y Y Y fun b26 g13_6=>?_
       cases b26
       ·skip
        refine .move (.on Y Y Y Y Y) Y Y Y Y<|.move (.on Y Y Y Y Y) Y Y Y Y<|.slice (.on Y Y Y Y Y) Y (lv:=0) (hv:=i) (m:=q23) t22 Y t9 Y Y (.ref _ _ _ _ _ Y) Y (by intro _ _ h; cases h; exact ⟨_,.head _⟩) (by exact rfl) (by exact ⟨_,rfl⟩) (Nat.zero_le _) (le_map (by omega)) Y Y<|.move (.on Y Y Y Y Y) Y Y Y Y<|.move (.on Y Y Y Y Y) Y Y Y Y<|.indexAddr (.on Y Y Y Y Y) Y (i) t22 Y t9 Y Y Y (.ref _ _ _ _ _ Y) Y Y Y (map_get (by omega)) Y Y<|.load (.on Y Y Y Y Y) Y t9 Y Y (.eptr _ _ _ _ _ _ _ _ _ Y (map_get (by omega))) Y Y Y Y ?_
        refine .call (.on Y Y Y Y Y) Y [[22]] [([22],(q22,q23,.row 9 1 (List.map strc (Decl.names d))))] (c_l3Place ((Decl.names d).take i) ((Decl.names d).getD (i) default)) Y Y Y Y Y (.cons (Reads.cut (Frz.of_erase (erase_takeo _ _ _ _ _ _ strc_e)) (le_map (by omega)) (.head _) (.head _)).gives (.dd .nil)) Y Y (fun _=>(ownCons (Owned.v _) ownNil)) (.own [73,0] .nil) (.nil) Y Y Y (AllH.get (.r Y)) Y Y Y<|.bin (.on Y Y Y Y Y) Y Y Y Y Y Y<|.pick (.no Y) Y Y Y Y Y ?_
        exact .fin () (.of (.cons Y (.cons Y (.cons (svB (show (decide ((place ((Decl.names d).take i) ((Decl.names d).getD (i) default))≥0))=((!(nmOk ((Decl.names d).getD (i) default))||decide ((place ((Decl.names d).take i) ((Decl.names d).getD (i) default))≥0))) by first | (simp only [g13_6,Bool.true_or,Bool.false_or,Bool.true_and,Bool.false_and,Bool.not_true,Bool.not_false]; done) | (simp [g13_6]; done) | (exfalso; simp_all; done))) .nil))) (.r Y))
       ·skip
        refine .off Y Y Y Y Y Y Y<|.off Y Y Y Y Y Y Y<|.off Y Y Y Y Y Y Y<|.off Y Y Y Y Y Y Y<|.off Y Y Y Y Y Y Y<|.off Y Y Y Y Y Y Y<|.off Y Y Y Y Y Y Y<|.off Y Y Y Y Y Y Y<|.off Y Y Y Y Y Y Y ?_
        refine .pick (.no Y) Y Y Y Y Y ?_
        exact .fin () (.of (.cons Y (.cons Y (.cons (svB (show (true)=((!(nmOk ((Decl.names d).getD (i) default))||decide ((place ((Decl.names d).take i) ((Decl.names d).getD (i) default))≥0))) by first | (simp only [g13_6,Bool.true_or,Bool.false_or,Bool.true_and,Bool.false_and,Bool.not_true,Bool.not_false]; done) | (simp [g13_6]; done) | (exfalso; simp_all; done))) .nil))) (.r Y))
      intro _
      refine .cond (t:=(!(nmOk ((Decl.names d).getD (i) default))||decide ((place ((Decl.names d).take i) ((Decl.names d).getD (i) default))≥0))) Y (fun c4=>?_) (fun c4=>?_)
      ·have c4:=(oT (nT id) dT) c4
       refine .seq<|.rs fun k27=>.as Y<|.z<|.ret ?_
       exact fin0 (.inr Y) (.one (svB (show (false)=(Decl.ok d) by exact (Decl.ok_name (j:=i) (by omega) c4).symm)) .nil) (.dd .nil) Y
      ·have c4:=(oF (nF id) dF) c4
       refine .skip<|.rs fun k29=>.mv Y<|.bi Y<|.as Y<|.z ?_
       exact .here ((i+1),q22,q23) (.of (.cons Y (.cons (svI (show (IntKind.wrap .i64 ((i:Int)+1))=(((i+1):Int)) by first | rfl | omega | exact wrap_le (by omega) (by omega) | (rw [wrap_le (by omega) (by omega)]; omega))) .nil)) (.r Y)) ⟨(show (i+1)≤(Decl.names d).length∧allTo (i+1) (nameOk (Decl.names d))=true by exact ⟨by omega,allTo_step hI.2 (nameOk_of c4)⟩),(show (Decl.names d).length - (i+1) < (Decl.names d).length - i by omega)⟩
     ·have c3:=of_decide_eq_false c3
      refine .exit<|.seq<|.rs fun k30=>.as Y<|.z<|.ret ?_
      exact fin0 (.inr Y) (.one (svB (show (true)=(Decl.ok d) by exact (Decl.ok_done (by omega) hI0.2 (by omega) (j:=i) (by omega) hI.2).symm)) .nil) (.dd .nil) Y
end Go.Proofs

namespace Go.Proofs
open Go Go.Proofs Go.Ev

theorem c_sEnvOk (d:Decl) (e:Env) (hs:∀ x∈Decl.names d,x.size≤9223372036854775807) (hb:d.vars.length≤1048576∧d.flags.length≤1048576∧d.arrays.length≤1048576) (he:e.ints.length≤1048576∧e.arrs.length≤1048576):Trip Tryz.prog 19 [(true,3),(true,3)] (Decl.c40 d++Env.c46 e) [(false,1)] [.v (.bool (Decl.ok d&&Env.okIn d e))] []:=by
 refine Trip.of Tryz.func19 (by decide) (c:=_) Y Y (Nat.le_of_ble_eq_true Y) Y (AftOk.nil _)<|.sla (t:=0) 0 Y Y fun hs1l=>.sla (t:=0) 1 Y Y fun hs2l=>.sla (t:=0) 2 Y Y fun hs3l=>.sla (t:=1) 1 Y Y fun hs4l=>.sla (t:=1) 2 Y Y fun hs5l=>.seq<|.rs fun k6=>.g (fun _ τ=>⟨_,.box (.no Y) Y Y Y Y Y τ⟩) ?_
 refine .g (fun _ τ=>⟨_,.box (.no Y) Y Y Y Y Y τ⟩)<|.as Y<|.z<|.seq<|.seq<|.rs fun k7=>.lda t40 Y (.ptr _ _ _ _ _ Y) Y<|.c0 (c_sDeclOk d (by first | assumption | omega) (by first | assumption | omega)) Y (.dd (.dd (.dd .nil))) (.own [8,0] .nil) Y<|.un Y ?_
 refine .z ?_
 refine .cond (t:=!(Decl.ok d)) Y (fun c0=>?_) (fun c0=>?_)
 ·have c0:=(nT id) c0
  refine .seq<|.rs fun k8=>.as Y<|.z<|.ret ?_
  exact fin0 (.inr Y) (.one (svB (show (false)=(Decl.ok d&&Env.okIn d e) by simp [c0])) .nil) (.dd .nil) Y
 ·have c0:=(nF id) c0
  refine .skip<|.seq<|.seq<|.rs fun k10=>.fp t46 t4 Y<|.ld t4 Y (.ptr _ _ _ _ _ Y) Y<|.un Y<|.z ?_
  refine .cond (t:=!e.live) Y (fun c1=>?_) (fun c1=>?_)
  ·have c1:=(nT id) c1
   refine .seq ?_
   refine .reg (X:=Unit) (fun ζ=>.of [(4,.one (.d (.v (.bool (((e.ints.length:Int) == 0&&(e.arrs.length:Int) == 0))))))] []) [⟨[3],some 13,[],[]⟩,⟨[13],some 14,[[3]],[]⟩,⟨[14],some 15,[],[]⟩,⟨[15],some 16,[],[]⟩,⟨[16],some 17,[],[]⟩,⟨[17,3],some 18,[],[]⟩,⟨[17,18],some 19,[[3]],[]⟩,⟨[17,19],some 20,[],[]⟩,⟨[17,20],some 21,[],[]⟩,⟨[17,21],some 22,[],[]⟩,⟨[22],some 4,[],[]⟩] (fun k11=>?_) ?_
   ·skip
    refine .fieldAddrP (.no Y) Y t46 Y Y t44 Y Y Y Y<|.load (.no Y) Y t44 Y Y (.ptr _ _ _ _ _ Y) Y Y Y Y<|.len (.no Y) Y (z:=(e.ints.length:Int)) t44 Y Y Y (.d _ _) (map_len _ _) Y<|.bin (.no Y) Y Y Y Y Y Y<|.moveB (.no Y) Y Y Y Y fun b12 g4_4=>?_
    cases b12
    ·skip
     refine .off Y Y Y Y Y Y Y<|.off Y Y Y Y Y Y Y<|.off Y Y Y Y Y Y Y<|.off Y Y Y Y Y Y Y<|.pick (.no Y) Y Y Y Y Y<|.assign (.no Y) Y Y Y Y ?_
     exact .fin () (.of (.cons (svB (show (false)=(((e.ints.length:Int) == 0&&(e.arrs.length:Int) == 0)) by first | (simp only [g4_4,Bool.true_or,Bool.false_or,Bool.true_and,Bool.false_and,Bool.not_true,Bool.not_false]; done) | (simp [g4_4]; done) | (exfalso; simp_all; done))) .nil) .nil)
    ·skip
     refine .fieldAddrP (.on Y Y Y Y Y) Y t46 Y Y t44 Y Y Y Y<|.load (.on Y Y Y Y Y) Y t44 Y Y (.ptr _ _ _ _ _ Y) Y Y Y Y<|.len (.on Y Y Y Y Y) Y (z:=(e.arrs.length:Int)) t44 Y Y Y (.d _ _) (map_len _ _) Y<|.bin (.on Y Y Y Y Y) Y Y Y Y Y Y<|.pick (.no Y) Y Y Y Y Y<|.assign (.no Y) Y Y Y Y ?_
     exact .fin () (.of (.cons (svB (show ((e.arrs.length:Int) == 0)=(((e.ints.length:Int) == 0&&(e.arrs.length:Int) == 0)) by first | (simp only [g4_4,Bool.true_or,Bool.false_or,Bool.true_and,Bool.false_and,Bool.not_true,Bool.not_false]; done) | (simp [g4_4]; done) | (exfalso; simp_all; done))) .nil) .nil)
   intro _
   refine .ret ?_
   exact fin0 (.inr Y) (.one (svB (show (((e.ints.length:Int) == 0&&(e.arrs.length:Int) == 0))=(Decl.ok d&&Env.okIn d e) by simp [c0,c1,Env.okIn])) .nil) (.dd .nil) Y
  ·have c1:=(nF id) c1
   refine .skip<|.seq<|.seq ?_
   refine .reg (X:=Unit) (fun ζ=>.of [(3,.one (.ptr [3] (k6+1) 0)),(38,.one (.d (.v (.bool (((e.ints.length:Int) != (d.vars.length:Int)||(e.arrs.length:Int) != (d.arrays.length:Int)))))))] [([3],(k6+1,k6+1,.box [.d (.v (.bool (e.live))),.d (.sl false 34 2 (List.map Iv.c (e.ints))),.d (.sl false 34 2 (List.map Iv.c (e.arrs)))]))]) [⟨[3],some 23,[],[]⟩,⟨[23],some 24,[[3]],[]⟩,⟨[24],some 25,[],[]⟩,⟨[2],some 26,[],[]⟩,⟨[26],some 27,[[2]],[]⟩,⟨[27],some 28,[],[]⟩,⟨[25,28],some 29,[],[]⟩,⟨[29],some 30,[],[]⟩,⟨[30,3],some 31,[],[]⟩,⟨[30,31],some 32,[[3]],[]⟩,⟨[30,32],some 33,[],[]⟩,⟨[30,2],some 34,[],[]⟩,⟨[30,34],some 35,[[2]],[]⟩,⟨[30,35],some 36,[],[]⟩,⟨[30,33,36],some 37,[],[]⟩,⟨[30,37],some 38,[],[]⟩] (fun k14=>?_) ?_
   ·skip
    refine .fieldAddrP (.no Y) Y t46 Y Y t44 Y Y Y Y<|.load (.no Y) Y t44 Y Y (.ptr _ _ _ _ _ Y) Y Y Y Y<|.len (.no Y) Y (z:=(e.ints.length:Int)) t44 Y Y Y (.d _ _) (map_len _ _) Y<|.fieldAddrP (.no Y) Y t40 Y Y t22 Y Y Y Y<|.load (.no Y) Y t22 Y Y (.ptr _ _ _ _ _ Y) Y Y Y Y<|.len (.no Y) Y (z:=(d.vars.length:Int)) t22 Y Y Y (.d _ _) (map_len _ _) Y<|.bin (.no Y) Y Y Y Y Y Y<|.moveB (.no Y) Y Y Y Y fun b15 g5_7=>?_
    cases b15
    ·skip
     refine .fieldAddrP (.on Y Y Y Y Y) Y t46 Y Y t44 Y Y Y Y<|.load (.on Y Y Y Y Y) Y t44 Y Y (.ptr _ _ _ _ _ Y) Y Y Y Y<|.len (.on Y Y Y Y Y) Y (z:=(e.arrs.length:Int)) t44 Y Y Y (.d _ _) (map_len _ _) Y<|.fieldAddrP (.on Y Y Y Y Y) Y t40 Y Y t38 Y Y Y Y<|.load (.on Y Y Y Y Y) Y t38 Y Y (.ptr _ _ _ _ _ Y) Y Y Y Y<|.len (.on Y Y Y Y Y) Y (z:=(d.arrays.length:Int)) t38 Y Y Y (.d _ _) (map_len _ _) Y<|.bin (.on Y Y Y Y Y) Y Y Y Y Y Y<|.pick (.no Y) Y Y Y Y Y ?_
     exact .fin () (.of (.cons Y (.cons (svB (show ((e.arrs.length:Int) != (d.arrays.length:Int))=(((e.ints.length:Int) != (d.vars.length:Int)||(e.arrs.length:Int) != (d.arrays.length:Int))) by first | (simp only [g5_7,Bool.true_or,Bool.false_or,Bool.true_and,Bool.false_and,Bool.not_true,Bool.not_false]; done) | (simp [g5_7]; done) | (exfalso; simp_all; done))) .nil)) (.r Y))
    ·skip
     refine .off Y Y Y Y Y Y Y<|.off Y Y Y Y Y Y Y<|.off Y Y Y Y Y Y Y<|.off Y Y Y Y Y Y Y<|.off Y Y Y Y Y Y Y<|.off Y Y Y Y Y Y Y<|.off Y Y Y Y Y Y Y<|.pick (.no Y) Y Y Y Y Y ?_
     exact .fin () (.of (.cons Y (.cons (svB (show (true)=(((e.ints.length:Int) != (d.vars.length:Int)||(e.arrs.length:Int) != (d.arrays.length:Int))) by first | (simp only [g5_7,Bool.true_or,Bool.false_or,Bool.true_and,Bool.false_and,Bool.not_true,Bool.not_false]; done) | (simp [g5_7]; done) | (exfalso; simp_all; done))) .nil)) (.r Y))
   intro _
   refine .cond (t:=((e.ints.length:Int) != (d.vars.length:Int)||(e.arrs.length:Int) != (d.arrays.length:Int))) Y (fun c2=>?_) (fun c2=>?_)
   ·have c2:=(oT bT bT) c2
    refine .seq<|.rs fun k16=>.as Y<|.z<|.ret ?_
    exact fin0 (.inr Y) (.one (svB (show (false)=(Decl.ok d&&Env.okIn d e) by simp only [c0,Env.okIn,c1]; simp; omega)) .nil) (.dd .nil) Y
   ·have c2:=(oF bF bF) c2
    refine .skip<|.seq<|.rs fun k18=>.lda t46 Y (.ptr _ _ _ _ _ Y) Y<|.c0 (c_l6List e (by first | assumption | omega)) Y (.dd (.dd (.dd .nil))) (.frz [40,0] (Frz.of_erase (erase_slo _ _ _ _ _ _ Iv.c_e)) .nil) Y<|.as Y<|.z<|.seq<|.seq ?_
    refine .rs fun k19=>.as Y<|.z<|.block ?_
    refine .loop (X:=Nat) (fun ζ=>.of [(5,.one (.d (.sl false 34 2 (List.map Iv.c (e.ints++e.arrs))))),(6,.one (.d (.v (.int .i64 ((ζ:Int))))))] []) (fun ζ=>ζ≤(e.ints++e.arrs).length∧allTo ζ (fun x=>Iv.ok ((e.ints++e.arrs).getD x default))=true) (fun ζ=>(e.ints++e.arrs).length - ζ) ?_ ?_
    ·skip
     exact .here 0 (.of (.cons Y (.cons (svI (show (0)=((0:Int)) by first | rfl | omega | exact wrap_le (by omega) (by omega) | (rw [wrap_le (by omega) (by omega)]; omega))) .nil)) .nil) (show 0≤(e.ints++e.arrs).length∧allTo 0 (fun x=>Iv.ok ((e.ints++e.arrs).getD x default))=true by exact ⟨by omega,rfl⟩)
    ·rintro j hI
     have hI:j≤(e.ints++e.arrs).length∧allTo j (fun x=>Iv.ok ((e.ints++e.arrs).getD x default))=true:=hI
     have hn9:(e.ints++e.arrs).length≤3145728:=by simp; omega
     refine .seq<|.seq<|.rs fun k20=>.mv Y<|.mv Y<|.g (fun _ τ=>⟨_,.len (.no Y) Y (z:=((e.ints++e.arrs).length:Int)) t44 Y Y Y (.d _ _) (map_len _ _) Y τ⟩)<|.bi Y<|.z ?_
     refine .cond (t:=decide ((j:Int) < ((e.ints++e.arrs).length:Int))) Y (fun c3=>?_) (fun c3=>?_)
     ·have c3:=of_decide_eq_true c3
      refine .skip<|.seq<|.block<|.seq<|.rs fun k21=>.mv Y<|.mv Y<|.g (fun _ τ=>⟨_,.indexAddr (.no Y) Y (j) t44 Y t34 Y Y Y (.d _ _) Y Y Y (map_get (by omega)) Y Y τ⟩)<|.lda t34 Y (.d _) Y ?_
      refine .c0 (c_sIvOk ((e.ints++e.arrs).getD (j) default)) Y (.dd (.dd .nil)) (.own [51,0] .nil) Y<|.un Y<|.z ?_
      refine .cond (t:=!(Iv.ok ((e.ints++e.arrs).getD (j) default))) Y (fun c4=>?_) (fun c4=>?_)
      ·have c4:=(nT id) c4
       refine .seq<|.rs fun k22=>.as Y<|.z<|.ret ?_
       exact fin0 (.inr Y) (.one (svB (show (false)=(Decl.ok d&&Env.okIn d e) by simp only [c0,Env.okIn,c1,all_none (p:=Iv.ok) (j:=j) (by omega) c4]; simp)) .nil) (.dd .nil) Y
      ·have c4:=(nF id) c4
       refine .skip<|.rs fun k24=>.mv Y<|.bi Y<|.as Y<|.z ?_
       exact .here (j+1) (.of (.cons Y (.cons (svI (show (IntKind.wrap .i64 ((j:Int)+1))=(((j+1):Int)) by first | rfl | omega | exact wrap_le (by omega) (by omega) | (rw [wrap_le (by omega) (by omega)]; omega))) .nil)) .nil) ⟨(show (j+1)≤(e.ints++e.arrs).length∧allTo (j+1) (fun x=>Iv.ok ((e.ints++e.arrs).getD x default))=true by exact ⟨by omega,allTo_step hI.2 c4⟩),(show (e.ints++e.arrs).length - (j+1) < (e.ints++e.arrs).length - j by omega)⟩
     ·have c3:=of_decide_eq_false c3
      refine .exit<|.seq<|.rs fun k25=>.as Y<|.z<|.ret ?_
      exact fin0 (.inr Y) (.one (svB (show (true)=(Decl.ok d&&Env.okIn d e) by simp only [c0,Env.okIn,c1,all_done (p:=Iv.ok) (j:=j) (by omega) hI.2]; simp; omega)) .nil) (.dd .nil) Y
end Go.Proofs

namespace Go.Proofs
open Go Go.Proofs Go.Ev

def slc22 (x:List ByteArray):List D:=[.sl false 9 1 (List.map strc (x))]
theorem slc22_e (x:List ByteArray):(slc22 x).map D.erase=slc22 x:=by simp [slc22,erase_slo _ _ _ _ _ _ strc_e]
def slco22 (x:List ByteArray):List D:=[.sl true 9 1 (List.map strc (x))]
theorem slco22_e (x:List ByteArray):(slco22 x).map D.erase=slc22 x:=by simp [slco22,slc22,erase_slo _ _ _ _ _ _ strc_e]
theorem slco22_o (x:List ByteArray):∀ d∈slco22 x,Owned d:=by simp [slco22,Owned.map _ _ _ _ strc_o]
def i3:TI:=⟨.int .i64,1,8,[.int .i64 0]⟩
theorem t3:TyOk Tryz.prog 3 i3:=⟨Tryz.underlying3,by kernel_rfl⟩
theorem z3:ZOk Tryz.prog 3 i3:=⟨t3,rfl⟩
def i187:TI:=⟨.sl 22,1,24,[.slice none 0 0]⟩
theorem t187:TyOk Tryz.prog 187 i187:=⟨Tryz.underlying187,by kernel_rfl⟩
theorem z187:ZOk Tryz.prog 187 i187:=⟨t187,rfl⟩
theorem c_Grow (n:Nat) (hn:n≤4194304):Trip Tryz.prog 178 [(false,1),(false,1)] ([.v (.slice none 0 0)]++[.v (.int .i64 ((n:Int)))]) [(false,1)] [.sl true 9 1 ([])] []:=by
 refine Trip.of Tryz.func178 (by decide) (c:=_) Y Y (Nat.le_of_ble_eq_true Y) Y (AftOk.nil _)<|.seq<|.rs fun k1=>.as Y<|.z<|.seq<|.seq<|.rs fun k2=>.mv Y ?_
 refine .bi Y<|.z ?_
 refine .cond (t:=decide ((n:Int) < 0)) Y (fun c0=>?_) (fun c0=>?_)
 ·have c0:=of_decide_eq_true c0
  exfalso; omega
 ·have c0:=of_decide_eq_false c0
  refine .skip<|.seq<|.seq<|.rs fun k3=>.mv Y<|.mv Y<|.g (fun _ τ=>⟨_,.capNil (.no Y) Y t22 Y Y Y Y τ⟩)<|.mv Y<|.g (fun _ τ=>⟨_,.len (.no Y) Y (z:=0) t22 Y Y Y (sz:=1) .nil Y Y τ⟩) ?_
  refine .bi (v:=.int .i64 (0)) Y<|.bi Y<|.as Y<|.z<|.seq<|.rs fun k4=>.mv Y<|.bi Y<|.z ?_
  refine .cond (t:=decide ((IntKind.wrap .i64 ((n:Int) - 0)) > 0)) Y (fun c1=>?_) (fun c1=>?_)
  ·have c1:=of_decide_eq_true c1
   refine .rs fun k5=>.mv Y<|.mv Y<|.g (fun _ τ=>⟨_,.capNil (.no Y) Y t22 Y Y Y Y τ⟩)<|.g (fun _ τ=>⟨_,.sliceNil (.no Y) Y t22 Y t9 Y Y (by exact rfl) (by exact ⟨_,rfl⟩) Y τ⟩)<|.mv Y<|.g (fun _ τ=>⟨_,.growNil (.no Y) Y (n0:=n) (els:=List.map strc (List.replicate n .empty)) t22 Y t3 Y z9 Y Y Y Y Y Y (by exact (wrap_le (by omega) (by omega)).trans (by omega)) (by (rw [wrap_le (by omega) (by omega)] at c1; omega)) (by simp [i9]; omega) (by omega) (rep_map _ _ _ Y) Y τ⟩)<|.mv Y<|.g (fun _ τ=>⟨_,.len (.no Y) Y (z:=0) t22 Y Y Y (sz:=1) .nil Y Y τ⟩) ?_
   refine .g (fun _ τ=>⟨_,.slice (.no Y) Y (lv:=0) (hv:=0) (m:=k5+1+1+1+1+1) t22 Y t9 Y Y (.ref _ _ _ _ _ Y) Y (by intro _ _ h; cases h; exact ⟨_,.head _⟩) (by exact rfl) (by exact ⟨_,rfl⟩) (Nat.zero_le _) (Nat.zero_le _) Y Y τ⟩)<|.as Y<|.z<|.seq<|.rs fun k6=>.mv Y<|.as Y<|.z<|.ret ?_
   exact fin1 (.inr Y) [] [([22],(k5+1+1+1+1+1,k5+1+1+1+1+1,.row 9 1 (List.map strc (List.replicate n .empty))))] (.one Y .nil) (.cons (.cut0 (.head _)) .nil) Y Y (.r Y)
  ·have c1:=of_decide_eq_false c1
   refine .skip<|.seq<|.rs fun k7=>.mv Y<|.as Y<|.z<|.ret ?_
   exact fin0 (.inr Y) (.one Y .nil) (.cons (Gives.nil' (by first | rfl | simp_all)) .nil) Y
theorem c_Concat (l:List (List ByteArray)) (hb:lens l≤4194304∧l.length≤1048576):Trip Tryz.prog 161 [(false,1)] ([.sl false 22 1 (List.map slc22 (l))]) [(false,1)] [.sl true 9 1 (List.map strc (l.flatten))] []:=by
 refine Trip.of Tryz.func161 (by decide) (c:=_) Y Y (Nat.le_of_ble_eq_true Y) Y (AftOk.nil _)<|.sl (t:=0) Y fun hs1l=>.seq<|.rs fun k2=>.as Y<|.z<|.seq<|.rs fun k3=>.as Y ?_
 refine .z<|.seq<|.seq<|.rs fun k4=>.mv Y<|.g (fun _ τ=>⟨_,.len (.no Y) Y (z:=(l.length:Int)) t187 Y Y Y (.d _ _) (map_len _ _) Y τ⟩)<|.mv Y<|.z<|.block ?_
 refine .loop (X:=Nat) (fun ζ=>.of [(0,.one (.d (.sl false 22 1 (List.map slc22 (l))))),(3,.one (.d (.v (.int .i64 ((lens (l.take ζ):Int)))))),(9,.one (.d (.sl false 22 1 (List.map slc22 (l))))),(10,.one (.d (.v (.int .i64 ((l.length:Int)))))),(11,.one (.d (.v (.int .i64 ((ζ:Int))))))] []) (fun ζ=>ζ≤l.length) (fun ζ=>l.length - ζ) ?_ ?_
 ·skip
  exact .here 0 (.of (.cons Y (.cons (svI (show (0)=((lens (l.take 0):Int)) by first | rfl | omega | exact wrap_le (by omega) (by omega) | (rw [wrap_le (by omega) (by omega)]; omega))) (.cons Y (.cons Y (.cons (svI (show (0)=((0:Int)) by first | rfl | omega | exact wrap_le (by omega) (by omega) | (rw [wrap_le (by omega) (by omega)]; omega))) .nil))))) .nil) (show 0≤l.length by omega)
 ·rintro j hI
  have hI:j≤l.length:=hI
  have hs9:=lens_take l j
  have hs8:=lens_le l (j+1)
  have hs7:=lens_le l j
  refine .seq<|.rs fun k5=>.bi Y<|.z<|.seq ?_
  refine .cond (t:=decide ((j:Int) < (l.length:Int))) Y (fun c0=>?_) (fun c0=>?_)
  ·have c0:=of_decide_eq_true c0
   refine .skip<|.seq<|.block<|.seq<|.rs fun k6=>.g (fun _ τ=>⟨_,.indexAddr (.no Y) Y (j) t187 Y t22 Y Y Y (.d _ _) Y Y Y (map_get (by omega)) Y Y τ⟩)<|.ld t22 Y (.d _) Y<|.as Y<|.z ?_
   refine .seq<|.rs fun k7=>.mv Y<|.mv Y<|.g (fun _ τ=>⟨_,.len (.no Y) Y (z:=((l.getD j default).length:Int)) t22 Y Y Y (.d _ _) (map_len _ _) Y τ⟩)<|.bi Y<|.as Y<|.z<|.seq ?_
   refine .rs fun k8=>.mv Y<|.bi Y<|.z ?_
   refine .cond (t:=decide ((IntKind.wrap .i64 ((lens (l.take j):Int)+((l.getD j default).length:Int))) < 0)) Y (fun c1=>?_) (fun c1=>?_)
   ·have c1:=of_decide_eq_true c1
    exfalso; (rw [wrap_le (by omega) (by omega)] at c1; omega)
   ·have c1:=of_decide_eq_false c1
    refine .skip<|.rs fun k9=>.bi Y<|.mv Y<|.z ?_
    exact .here (j+1) (.of (.cons Y (.cons (svI (show (IntKind.wrap .i64 ((lens (l.take j):Int)+((l.getD j default).length:Int)))=((lens (l.take (j+1)):Int)) by first | rfl | omega | exact wrap_le (by omega) (by omega) | (rw [wrap_le (by omega) (by omega)]; omega))) (.cons Y (.cons Y (.cons (svI (show (IntKind.wrap .i64 ((j:Int)+1))=(((j+1):Int)) by first | rfl | omega | exact wrap_le (by omega) (by omega) | (rw [wrap_le (by omega) (by omega)]; omega))) .nil))))) .nil) ⟨(show (j+1)≤l.length by omega),(show l.length - (j+1) < l.length - j by omega)⟩
  ·have c0:=of_decide_eq_false c0
   refine .exit<|.seq<|.rs fun k10=>.mv Y<|.c0 (c_Grow (lens (l.take j)) (by omega)) Y (.dd (.dd .nil)) (.own [24,0] .nil) Y<|.as Y<|.z<|.seq<|.seq ?_
   refine .rs fun k11=>.mv Y<|.g (fun _ τ=>⟨_,.len (.no Y) Y (z:=(l.length:Int)) t187 Y Y Y (.d _ _) (map_len _ _) Y τ⟩)<|.mv Y<|.z<|.block ?_
   refine .loop (X:=Nat × Nat × Nat) (fun ζ=>.of [(6,.one (.ref [24,0] (ζ.2.1))),(25,.one (.d (.sl false 22 1 (List.map slc22 (l))))),(26,.one (.d (.v (.int .i64 ((l.length:Int)))))),(27,.one (.d (.v (.int .i64 ((ζ.1:Int))))))] [([24,0],(ζ.2.1,ζ.2.2,.row 9 1 (List.map strc ((l.take ζ.1).flatten))))]) (fun ζ=>ζ.1≤l.length) (fun ζ=>l.length - ζ.1) ?_ ?_
   ·skip
    exact .here (0,(k10+1),(k10+1)) (.of (.cons (by show SV.one (.ref [24,0] (k10+1))=SV.one (.ref [24,0] ((k10+1))); first | rfl | simp_all) (.cons Y (.cons Y (.cons (svI (show (0)=((0:Int)) by first | rfl | omega | exact wrap_le (by omega) (by omega) | (rw [wrap_le (by omega) (by omega)]; omega))) .nil)))) (.cons (rowE (show []=List.map strc ((l.take 0).flatten) by first | (simp; done) | exact congrArg _ (take_flatten _ _))) .nil)) (show 0≤l.length by omega)
   ·rintro ⟨i,q12,q13⟩ hI
    have hI:i≤l.length:=hI
    have hs9:=lens_take l i
    have hs8:=lens_le l (i+1)
    have hs7:=lens_le l i
    dsimp only
    refine .seq<|.rs fun k14=>.bi Y<|.z<|.seq ?_
    refine .cond (t:=decide ((i:Int) < (l.length:Int))) Y (fun c2=>?_) (fun c2=>?_)
    ·have c2:=of_decide_eq_true c2
     refine .skip<|.seq<|.block<|.seq<|.rs fun k15=>.g (fun _ τ=>⟨_,.indexAddr (.no Y) Y (i) t187 Y t22 Y Y Y (.d _ _) Y Y Y (map_get (by omega)) Y Y τ⟩)<|.ld t22 Y (.d _) Y<|.as Y<|.z ?_
     refine .rs fun k16=>.mv Y<|.mv Y<|.g (fun _ τ=>⟨_,.append (.no Y) Y (l3:=List.map strc ((l.take i).flatten++l.getD i default)) t22 Y z9 Y Y Y Y Y Y Y Y (.ref _ _ _ _ Y) (.ro _ _) Y (by simp only [List.length_map,flatten_lens,i9]; omega) (map_app _ _ _) Y Y τ⟩)<|.as Y<|.z<|.rs fun k17=>.bi Y<|.mv Y ?_
     refine .z ?_
     exact .here ((i+1),(k16+1+1),(k16+1+1)) (.of (.cons (by show SV.one (.ref [24,0] (k16+1+1))=SV.one (.ref [24,0] ((k16+1+1))); first | rfl | simp_all) (.cons Y (.cons Y (.cons (svI (show (IntKind.wrap .i64 ((i:Int)+1))=(((i+1):Int)) by first | rfl | omega | exact wrap_le (by omega) (by omega) | (rw [wrap_le (by omega) (by omega)]; omega))) .nil)))) (.cons (rowE (show List.map strc ((l.take i).flatten++l.getD i default)=List.map strc ((l.take (i+1)).flatten) by first | (simp; done) | exact congrArg _ (take_flatten _ _))) .nil)) ⟨(show (i+1)≤l.length by omega),(show l.length - (i+1) < l.length - i by omega)⟩
    ·have c2:=of_decide_eq_false c2
     refine .exit<|.seq<|.rs fun k18=>.mv Y<|.as Y<|.z<|.ret ?_
     have e19:((l.take i).flatten)=(l.flatten):=by (rw [List.take_of_length_le (by omega)])
     exact fin1 (.inr Y) [] [([24,0],(q12,q13,.row 9 1 (List.map strc (l.flatten))))] (.one Y .nil) (.cons (.ref (.head _)) .nil) Y Y (.cons (rowE (congrArg (List.map strc) e19)) .nil)
theorem c_names (d:Decl) (hb:d.vars.length≤1048576∧d.flags.length≤1048576∧d.arrays.length≤1048576):Trip Tryz.prog 122 [(true,3)] (Decl.c40 d) [(false,1)] [.sl true 9 1 (List.map strc (Decl.names d))] []:=by
 refine Trip.of Tryz.func122 (by decide) (c:=_) Y Y (Nat.le_of_ble_eq_true Y) Y (AftOk.nil _)<|.sla (t:=0) 0 Y Y fun hs1l=>.sla (t:=0) 1 Y Y fun hs2l=>.sla (t:=0) 2 Y Y fun hs3l=>.seq<|.rs fun k4=>.g (fun _ τ=>⟨_,.box (.no Y) Y Y Y Y Y τ⟩)<|.as Y<|.z ?_
 refine .seq<|.rs fun k5=>.fp t40 t22 Y<|.ld t22 Y (.ptr _ _ _ _ _ Y) Y<|.fp t40 t22 Y<|.ld t22 Y (.ptr _ _ _ _ _ Y) Y<|.g (fun _ τ=>⟨_,.buildSlice (.no Y) Y (els:=[[.sl false 9 1 (List.map strc (d.vars))],[.sl false 9 1 (List.map strc (d.flags))]]) t187 Y z22 Y Y Y Y Y Y Y Y (by simp [i22]) (.cons _ _ _ _ _ _ (.d _) (.cons _ _ _ _ _ _ (.d _) .nil)) Y Y Y τ⟩) ?_
 refine .g (fun _ τ=>⟨_,.call (.no Y) Y [[10]] [([10],(k5+1+1+1+1,k5+1+1+1+1,.row 22 1 ([[.sl false 9 1 (List.map strc (d.vars))],[.sl false 9 1 (List.map strc (d.flags))]])))] (c_Concat [d.vars,d.flags] (by (simp [lens]; omega))) Y Y Y Y Y (.cons (Reads.ref (Frz.of_erase (erase_slo true 22 1 slc22 slc22 ([d.vars,d.flags]) slc22_e)) (.head _) (.head _)).gives .nil) Y Y (fun _=>(ownCons (Owned.map _ _ _ _ strc_o) ownNil)) (.own [11,0] .nil) (.nil) Y Y Y (AllH.get (.r Y)) Y Y Y τ⟩)<|.as Y<|.z<|.seq<|.seq<|.rs fun k6=>.fp t40 t38 Y<|.ld t38 Y (.ptr _ _ _ _ _ Y) Y<|.g (fun _ τ=>⟨_,.len (.no Y) Y (z:=(d.arrays.length:Int)) t38 Y Y Y (.d _ _) (map_len _ _) Y τ⟩) ?_
 refine .mv Y<|.z<|.block ?_
 refine .loop (X:=Nat × Nat × Nat) (fun ζ=>.of [(3,.one (.ref [11,0] (ζ.2.1))),(13,.one (.d (.sl false 120 2 (List.map Arr.c (d.arrays))))),(14,.one (.d (.v (.int .i64 ((d.arrays.length:Int)))))),(15,.one (.d (.v (.int .i64 ((ζ.1:Int))))))] [([11,0],(ζ.2.1,ζ.2.2,.row 9 1 (List.map strc (d.vars++d.flags++(d.arrays.take ζ.1).map Arr.name))))]) (fun ζ=>ζ.1≤d.arrays.length) (fun ζ=>d.arrays.length - ζ.1) ?_ ?_
 ·skip
  exact .here (0,(k5+1+1+1+1+1),(k5+1+1+1+1+1)) (.of (.cons (by show SV.one (.ref [11,0] (k5+1+1+1+1+1))=SV.one (.ref [11,0] ((k5+1+1+1+1+1))); first | rfl | simp_all) (.cons Y (.cons Y (.cons (svI (show (0)=((0:Int)) by first | rfl | omega | exact wrap_le (by omega) (by omega) | (rw [wrap_le (by omega) (by omega)]; omega))) .nil)))) (.cons (rowE (show List.map strc ([d.vars,d.flags].flatten)=List.map strc (d.vars++d.flags++(d.arrays.take 0).map Arr.name) by first | (simp; done) | (rw [List.append_assoc (d.vars++d.flags),take_step (f:=Arr.name) (by omega)]))) .nil)) (show 0≤d.arrays.length by omega)
 ·rintro ⟨j,q7,q8⟩ hI
  have hI:j≤d.arrays.length:=hI
  dsimp only
  refine .seq<|.rs fun k9=>.bi Y<|.z<|.seq ?_
  refine .cond (t:=decide ((j:Int) < (d.arrays.length:Int))) Y (fun c0=>?_) (fun c0=>?_)
  ·have c0:=of_decide_eq_true c0
   refine .skip<|.seq<|.block<|.seq<|.rs fun k10=>.g (fun _ τ=>⟨_,.indexAddr (.no Y) Y (j) t38 Y t120 Y Y Y (.d _ _) Y Y Y (map_get (by omega)) Y Y τ⟩)<|.lda t120 Y (.d _) Y<|.g (fun _ τ=>⟨_,.alloc (.no Y) Y z120 Y Y Y τ⟩)<|.g (fun _ τ=>⟨_,.store (.no Y) Y t120 Y Y Y Y Y Y Y Y Y τ⟩) ?_
   refine .z<|.rs fun k11=>.mv Y<|.fp t120 t9 Y<|.ld t9 Y (.ptr _ _ _ _ _ Y) Y<|.g (fun _ τ=>⟨_,.buildSlice (.no Y) Y (els:=[[.v (.string ((d.arrays.getD j default).name))]]) t22 Y z9 Y Y Y Y Y Y Y Y (by simp [i9]) (.cons _ _ _ _ _ _ (.d _) .nil) Y Y Y τ⟩)<|.g (fun _ τ=>⟨_,.append (.no Y) Y (l3:=List.map strc (d.vars++d.flags++(d.arrays.take j).map Arr.name++[(d.arrays.getD j default).name])) t22 Y z9 Y Y Y Y Y Y Y Y (.ref _ _ _ _ Y) (.take _ _ _ _ _ Y) Y (by simp [i9]; omega) (map_snoc _ _ _) Y Y τ⟩)<|.as Y<|.z ?_
   refine .rs fun k12=>.bi Y<|.mv Y<|.z ?_
   exact .here ((j+1),(k11+1+1+1+1),(k11+1+1+1+1)) (.of (.cons (by show SV.one (.ref [11,0] (k11+1+1+1+1))=SV.one (.ref [11,0] ((k11+1+1+1+1))); first | rfl | simp_all) (.cons Y (.cons Y (.cons (svI (show (IntKind.wrap .i64 ((j:Int)+1))=(((j+1):Int)) by first | rfl | omega | exact wrap_le (by omega) (by omega) | (rw [wrap_le (by omega) (by omega)]; omega))) .nil)))) (.cons (rowE (show List.map strc (d.vars++d.flags++(d.arrays.take j).map Arr.name++[(d.arrays.getD j default).name])=List.map strc (d.vars++d.flags++(d.arrays.take (j+1)).map Arr.name) by first | (simp; done) | (rw [List.append_assoc (d.vars++d.flags),take_step (f:=Arr.name) (by omega)]))) .nil)) ⟨(show (j+1)≤d.arrays.length by omega),(show d.arrays.length - (j+1) < d.arrays.length - j by omega)⟩
  ·have c0:=of_decide_eq_false c0
   refine .exit<|.seq<|.rs fun k13=>.mv Y<|.as Y<|.z<|.ret ?_
   have e14:(d.vars++d.flags++(d.arrays.take j).map Arr.name)=(Decl.names d):=by (simp only [Decl.names]; rw [List.take_of_length_le (by omega)])
   exact fin1 (.inr Y) [] [([11,0],(q7,q8,.row 9 1 (List.map strc (Decl.names d))))] (.one Y .nil) (.cons (.ref (.head _)) .nil) Y Y (.cons (rowE (congrArg (List.map strc) e14)) .nil)
end Go.Proofs

namespace Go.Proofs
open Go Go.Proofs Go.Ev

def i103:TI:=⟨.fn,1,8,[.nilFunc]⟩
theorem t103:TyOk Tryz.prog 103 i103:=⟨⟨_,_,_,Tryz.underlying103⟩,by kernel_rfl⟩
theorem z103:ZOk Tryz.prog 103 i103:=⟨t103,rfl⟩
def i160:TI:=⟨.fn,1,8,[.nilFunc]⟩
theorem t160:TyOk Tryz.prog 160 i160:=⟨⟨_,_,_,Tryz.underlying160⟩,by kernel_rfl⟩
theorem z160:ZOk Tryz.prog 160 i160:=⟨t160,rfl⟩
theorem c_IvOk (a:Iv):Trip Tryz.prog 146 [(true,2)] (Iv.c a) [(false,1)] [.v (.bool (Iv.ok a))] []:=by
 refine Trip.of Tryz.func146 (by decide) (c:=_) Y Y (Nat.le_of_ble_eq_true Y) Y (AftOk.nil _)<|.seq<|.rs fun k1=>.g (fun _ τ=>⟨_,.box (.no Y) Y Y Y Y Y τ⟩)<|.as Y<|.z<|.seq<|.rs fun k2=>.fp t34 t2 Y ?_
 refine .ld t2 Y (.ptr _ _ _ _ _ Y) Y<|.fp t34 t2 Y<|.ld t2 Y (.ptr _ _ _ _ _ Y) Y<|.bi Y<|.as Y<|.z<|.ret ?_
 exact fin0 (.inr Y) (.one (svB (show (decide (a.lo≤a.hi))=(Iv.ok a) by rfl)) .nil) (.dd .nil) Y
theorem c_IndexFuncA (l:List Arr) (F_p:FuncId) (first_p:List (Bool × List D)) (caps_p:List D) (p:Arr→Bool) (h_p:∀ (x0:Arr),FnTrip Tryz.prog F_p first_p caps_p [(true,2)] (Arr.c x0) [(false,1)] [.v (.bool (p x0))]):Trip Tryz.prog 180 [(false,1),(false,1)] ([.sl false 120 2 (List.map Arr.c (l))]++[.fn F_p first_p caps_p]) [(false,1)] [.v (.int .i64 (idx p l))] []:=by
 refine Trip.of Tryz.func180 (by decide) (c:=_) Y Y (Nat.le_of_ble_eq_true Y) Y (AftOk.nil _)<|.sl (t:=0) Y fun hs1l=>.seq<|.rs fun k2=>.as Y<|.z<|.seq<|.seq<|.rs fun k3=>?_
 refine .mv Y<|.g (fun _ τ=>⟨_,.len (.no Y) Y (z:=(l.length:Int)) t38 Y Y Y (.d _ _) (map_len _ _) Y τ⟩)<|.mv Y<|.z<|.block ?_
 refine .loop (X:=Nat) (fun ζ=>.of [(0,.one (.d (.sl false 120 2 (List.map Arr.c (l))))),(1,.one (.d (.fn F_p first_p caps_p))),(7,.one (.d (.v (.int .i64 ((l.length:Int)))))),(8,.one (.d (.v (.int .i64 ((ζ:Int))))))] []) (fun ζ=>ζ≤l.length∧allTo ζ (fun i=>!p (l.getD i default))=true) (fun ζ=>l.length - ζ) ?_ ?_
 ·skip
  exact .here 0 (.of (.cons Y (.cons Y (.cons Y (.cons (svI (show (0)=((0:Int)) by first | rfl | omega | exact wrap_le (by omega) (by omega) | (rw [wrap_le (by omega) (by omega)]; omega))) .nil)))) .nil) (show 0≤l.length∧allTo 0 (fun i=>!p (l.getD i default))=true by exact ⟨by omega,rfl⟩)
 ·rintro j hI
  have hI:j≤l.length∧allTo j (fun i=>!p (l.getD i default))=true:=hI
  refine .seq<|.rs fun k4=>.bi Y<|.z<|.seq ?_
  refine .cond (t:=decide ((j:Int) < (l.length:Int))) Y (fun c0=>?_) (fun c0=>?_)
  ·have c0:=of_decide_eq_true c0
   refine .skip<|.seq<|.block<|.seq<|.rs fun k5=>.mv Y<|.as Y<|.z<|.seq ?_
   refine .rs fun k6=>.mv Y<|.mv Y<|.mv Y<|.g (fun _ τ=>⟨_,.indexAddr (.no Y) Y (j) t38 Y t120 Y Y Y (.d _ _) Y Y Y (map_get (by omega)) Y Y τ⟩)<|.lda t120 Y (.d _) Y<|.g (fun _ τ=>⟨_,.callF (.no Y) Y (ds:=[.v (.string ((l.getD j default).name)),.v (.int .i64 ((l.getD j default).size))]) (h_p (l.getD j default)) Y Y Y Y (.own [16,0] .nil) Y Y Y Y Y Y τ⟩)<|.z ?_
   refine .cond (t:=p (l.getD j default)) Y (fun c1=>?_) (fun c1=>?_)
   ·have c1:=c1
    refine .seq<|.rs fun k7=>.mv Y<|.as Y<|.z<|.ret ?_
    exact fin0 (.inr Y) (.one (svI (show ((j:Int))=(idx p l) by exact (idx_found (j:=j) (by omega) hI.2 (by simpa using c1)).symm)) .nil) (.dd .nil) Y
   ·have c1:=c1
    refine .skip<|.rs fun k9=>.bi Y<|.mv Y<|.z ?_
    exact .here (j+1) (.of (.cons Y (.cons Y (.cons Y (.cons (svI (show (IntKind.wrap .i64 ((j:Int)+1))=(((j+1):Int)) by first | rfl | omega | exact wrap_le (by omega) (by omega) | (rw [wrap_le (by omega) (by omega)]; omega))) .nil)))) .nil) ⟨(show (j+1)≤l.length∧allTo (j+1) (fun i=>!p (l.getD i default))=true by exact ⟨by omega,allTo_step hI.2 (by simpa using c1)⟩),(show l.length - (j+1) < l.length - j by omega)⟩
  ·have c0:=of_decide_eq_false c0
   refine .exit<|.seq<|.rs fun k10=>.as Y<|.z<|.ret ?_
   exact fin0 (.inr Y) (.one (svI (show (-1)=(idx p l) by exact (idx_none (by omega) hI.2).symm)) .nil) (.dd .nil) Y
theorem c_ContainsFuncA (l:List Arr) (F_p:FuncId) (first_p:List (Bool × List D)) (caps_p:List D) (p:Arr→Bool) (h_p:∀ (x0:Arr),FnTrip Tryz.prog F_p first_p caps_p [(true,2)] (Arr.c x0) [(false,1)] [.v (.bool (p x0))]):Trip Tryz.prog 165 [(false,1),(false,1)] ([.sl false 120 2 (List.map Arr.c (l))]++[.fn F_p first_p caps_p]) [(false,1)] [.v (.bool (l.any p))] []:=by
 refine Trip.of Tryz.func165 (by decide) (c:=_) Y Y (Nat.le_of_ble_eq_true Y) Y (AftOk.nil _)<|.sl (t:=0) Y fun hs1l=>.seq<|.rs fun k2=>.as Y<|.z<|.seq<|.rs fun k3=>.mv Y ?_
 refine .mv Y<|.c0 (c_IndexFuncA l F_p first_p caps_p p h_p) Y (.dd (.dd .nil)) (.own [7,0] .nil) Y<|.bi Y<|.as Y<|.z<|.ret ?_
 exact fin0 (.inr Y) (.one (svB (show (decide ((idx p l)≥0))=(l.any p) by exact idx_any _ _)) .nil) (.dd .nil) Y
theorem c_areAll1A (x:Arr) (F_p:FuncId) (first_p:List (Bool × List D)) (caps_p:List D) (p:Arr→Bool) (h_p:∀ (x0:Arr),FnTrip Tryz.prog F_p first_p caps_p [(true,2)] (Arr.c x0) [(false,1)] [.v (.bool (p x0))]):Trip Tryz.prog 166 [(true,2),(false,1)] (Arr.c x++[.pt false [.fn F_p first_p caps_p]]) [(false,1)] [.v (.bool (!p x))] []:=by
 refine Trip.of Tryz.func166 (by decide) (c:=_) Y Y (Nat.le_of_ble_eq_true Y) Y (AftOk.nil _)<|.seq<|.rs fun k1=>.g (fun _ τ=>⟨_,.box (.no Y) Y Y Y Y Y τ⟩)<|.as Y<|.z<|.seq<|.rs fun k2=>.ld t160 Y (.d _) Y ?_
 refine .lda t120 Y (.ptr _ _ _ _ _ Y) Y<|.g (fun _ τ=>⟨_,.callF (.no Y) Y (ds:=[.v (.string (x.name)),.v (.int .i64 (x.size))]) (h_p x) Y Y Y Y (.own [6,0] .nil) Y Y Y Y Y Y τ⟩)<|.un Y<|.as Y<|.z<|.ret ?_
 exact fin0 (.inr Y) (.one (svB (show (!(p x))=(!p x) by rfl)) .nil) (.dd .nil) Y
theorem c_areAllA (l:List Arr) (F_p:FuncId) (first_p:List (Bool × List D)) (caps_p:List D) (p:Arr→Bool) (h_p:∀ (x0:Arr),FnTrip Tryz.prog F_p first_p caps_p [(true,2)] (Arr.c x0) [(false,1)] [.v (.bool (p x0))]):Trip Tryz.prog 126 [(false,1),(false,1)] ([.sl false 120 2 (List.map Arr.c (l))]++[.fn F_p first_p caps_p]) [(false,1)] [.v (.bool (l.all p))] []:=by
 refine Trip.of Tryz.func126 (by decide) (c:=_) Y Y (Nat.le_of_ble_eq_true Y) Y (AftOk.nil _)<|.sl (t:=0) Y fun hs1l=>.seq<|.rs fun k2=>.g (fun _ τ=>⟨_,.box (.no Y) Y Y Y Y Y τ⟩)<|.as Y<|.z<|.seq<|.rs fun k3=>?_
 refine .mv Y<|.g (fun _ τ=>⟨_,.makeFunc (.no Y) Y Y Y Y Y τ⟩)<|.g (fun _ τ=>⟨_,.call (.no Y) Y [[3]] [([3],(k2,k2,.box [.d (.fn F_p first_p caps_p)]))] (c_ContainsFuncA l 166 [] [.pt false [.fn F_p first_p caps_p]] (fun x0=>!p x0) (fun x0=>c_areAll1A x0 F_p first_p caps_p p h_p)) Y Y Y Y Y (.dd (.cons (Reads.clo0 (.cons (Reads.ptr0 (.head _) (.head _) (.cons (Reads.d _) .nil)) .nil)).gives .nil)) Y Y (fun _=>(ownCons (Owned.v _) ownNil)) (.own [7,0] .nil) (.nil) Y Y Y (AllH.get (.r Y)) Y Y Y τ⟩)<|.un Y<|.as Y<|.z<|.ret ?_
 exact fin0 (.inr Y) (.one (svB (show (!(l.any (fun x0=>!p x0)))=(l.all p) by exact not_any _ _)) .nil) (.dd .nil) Y
theorem c_IndexFuncI (l:List Iv) (F_p:FuncId) (first_p:List (Bool × List D)) (caps_p:List D) (p:Iv→Bool) (h_p:∀ (x0:Iv),FnTrip Tryz.prog F_p first_p caps_p [(true,2)] (Iv.c x0) [(false,1)] [.v (.bool (p x0))]):Trip Tryz.prog 184 [(false,1),(false,1)] ([.sl false 34 2 (List.map Iv.c (l))]++[.fn F_p first_p caps_p]) [(false,1)] [.v (.int .i64 (idx p l))] []:=by
 refine Trip.of Tryz.func184 (by decide) (c:=_) Y Y (Nat.le_of_ble_eq_true Y) Y (AftOk.nil _)<|.sl (t:=0) Y fun hs1l=>.seq<|.rs fun k2=>.as Y<|.z<|.seq<|.seq<|.rs fun k3=>?_
 refine .mv Y<|.g (fun _ τ=>⟨_,.len (.no Y) Y (z:=(l.length:Int)) t44 Y Y Y (.d _ _) (map_len _ _) Y τ⟩)<|.mv Y<|.z<|.block ?_
 refine .loop (X:=Nat) (fun ζ=>.of [(0,.one (.d (.sl false 34 2 (List.map Iv.c (l))))),(1,.one (.d (.fn F_p first_p caps_p))),(7,.one (.d (.v (.int .i64 ((l.length:Int)))))),(8,.one (.d (.v (.int .i64 ((ζ:Int))))))] []) (fun ζ=>ζ≤l.length∧allTo ζ (fun i=>!p (l.getD i default))=true) (fun ζ=>l.length - ζ) ?_ ?_
 ·skip
  exact .here 0 (.of (.cons Y (.cons Y (.cons Y (.cons (svI (show (0)=((0:Int)) by first | rfl | omega | exact wrap_le (by omega) (by omega) | (rw [wrap_le (by omega) (by omega)]; omega))) .nil)))) .nil) (show 0≤l.length∧allTo 0 (fun i=>!p (l.getD i default))=true by exact ⟨by omega,rfl⟩)
 ·rintro j hI
  have hI:j≤l.length∧allTo j (fun i=>!p (l.getD i default))=true:=hI
  refine .seq<|.rs fun k4=>.bi Y<|.z<|.seq ?_
  refine .cond (t:=decide ((j:Int) < (l.length:Int))) Y (fun c0=>?_) (fun c0=>?_)
  ·have c0:=of_decide_eq_true c0
   refine .skip<|.seq<|.block<|.seq<|.rs fun k5=>.mv Y<|.as Y<|.z<|.seq ?_
   refine .rs fun k6=>.mv Y<|.mv Y<|.mv Y<|.g (fun _ τ=>⟨_,.indexAddr (.no Y) Y (j) t44 Y t34 Y Y Y (.d _ _) Y Y Y (map_get (by omega)) Y Y τ⟩)<|.lda t34 Y (.d _) Y<|.g (fun _ τ=>⟨_,.callF (.no Y) Y (ds:=[.v (.int .i64 ((l.getD j default).lo)),.v (.int .i64 ((l.getD j default).hi))]) (h_p (l.getD j default)) Y Y Y Y (.own [16,0] .nil) Y Y Y Y Y Y τ⟩)<|.z ?_
   refine .cond (t:=p (l.getD j default)) Y (fun c1=>?_) (fun c1=>?_)
   ·have c1:=c1
    refine .seq<|.rs fun k7=>.mv Y<|.as Y<|.z<|.ret ?_
    exact fin0 (.inr Y) (.one (svI (show ((j:Int))=(idx p l) by exact (idx_found (j:=j) (by omega) hI.2 (by simpa using c1)).symm)) .nil) (.dd .nil) Y
   ·have c1:=c1
    refine .skip<|.rs fun k9=>.bi Y<|.mv Y<|.z ?_
    exact .here (j+1) (.of (.cons Y (.cons Y (.cons Y (.cons (svI (show (IntKind.wrap .i64 ((j:Int)+1))=(((j+1):Int)) by first | rfl | omega | exact wrap_le (by omega) (by omega) | (rw [wrap_le (by omega) (by omega)]; omega))) .nil)))) .nil) ⟨(show (j+1)≤l.length∧allTo (j+1) (fun i=>!p (l.getD i default))=true by exact ⟨by omega,allTo_step hI.2 (by simpa using c1)⟩),(show l.length - (j+1) < l.length - j by omega)⟩
  ·have c0:=of_decide_eq_false c0
   refine .exit<|.seq<|.rs fun k10=>.as Y<|.z<|.ret ?_
   exact fin0 (.inr Y) (.one (svI (show (-1)=(idx p l) by exact (idx_none (by omega) hI.2).symm)) .nil) (.dd .nil) Y
theorem c_ContainsFuncI (l:List Iv) (F_p:FuncId) (first_p:List (Bool × List D)) (caps_p:List D) (p:Iv→Bool) (h_p:∀ (x0:Iv),FnTrip Tryz.prog F_p first_p caps_p [(true,2)] (Iv.c x0) [(false,1)] [.v (.bool (p x0))]):Trip Tryz.prog 171 [(false,1),(false,1)] ([.sl false 34 2 (List.map Iv.c (l))]++[.fn F_p first_p caps_p]) [(false,1)] [.v (.bool (l.any p))] []:=by
 refine Trip.of Tryz.func171 (by decide) (c:=_) Y Y (Nat.le_of_ble_eq_true Y) Y (AftOk.nil _)<|.sl (t:=0) Y fun hs1l=>.seq<|.rs fun k2=>.as Y<|.z<|.seq<|.rs fun k3=>.mv Y ?_
 refine .mv Y<|.c0 (c_IndexFuncI l F_p first_p caps_p p h_p) Y (.dd (.dd .nil)) (.own [7,0] .nil) Y<|.bi Y<|.as Y<|.z<|.ret ?_
 exact fin0 (.inr Y) (.one (svB (show (decide ((idx p l)≥0))=(l.any p) by exact idx_any _ _)) .nil) (.dd .nil) Y
theorem c_areAll1I (x:Iv) (F_p:FuncId) (first_p:List (Bool × List D)) (caps_p:List D) (p:Iv→Bool) (h_p:∀ (x0:Iv),FnTrip Tryz.prog F_p first_p caps_p [(true,2)] (Iv.c x0) [(false,1)] [.v (.bool (p x0))]):Trip Tryz.prog 172 [(true,2),(false,1)] (Iv.c x++[.pt false [.fn F_p first_p caps_p]]) [(false,1)] [.v (.bool (!p x))] []:=by
 refine Trip.of Tryz.func172 (by decide) (c:=_) Y Y (Nat.le_of_ble_eq_true Y) Y (AftOk.nil _)<|.seq<|.rs fun k1=>.g (fun _ τ=>⟨_,.box (.no Y) Y Y Y Y Y τ⟩)<|.as Y<|.z<|.seq<|.rs fun k2=>.ld t103 Y (.d _) Y ?_
 refine .lda t34 Y (.ptr _ _ _ _ _ Y) Y<|.g (fun _ τ=>⟨_,.callF (.no Y) Y (ds:=[.v (.int .i64 (x.lo)),.v (.int .i64 (x.hi))]) (h_p x) Y Y Y Y (.own [6,0] .nil) Y Y Y Y Y Y τ⟩)<|.un Y<|.as Y<|.z<|.ret ?_
 exact fin0 (.inr Y) (.one (svB (show (!(p x))=(!p x) by rfl)) .nil) (.dd .nil) Y
theorem c_areAllI (l:List Iv) (F_p:FuncId) (first_p:List (Bool × List D)) (caps_p:List D) (p:Iv→Bool) (h_p:∀ (x0:Iv),FnTrip Tryz.prog F_p first_p caps_p [(true,2)] (Iv.c x0) [(false,1)] [.v (.bool (p x0))]):Trip Tryz.prog 145 [(false,1),(false,1)] ([.sl false 34 2 (List.map Iv.c (l))]++[.fn F_p first_p caps_p]) [(false,1)] [.v (.bool (l.all p))] []:=by
 refine Trip.of Tryz.func145 (by decide) (c:=_) Y Y (Nat.le_of_ble_eq_true Y) Y (AftOk.nil _)<|.sl (t:=0) Y fun hs1l=>.seq<|.rs fun k2=>.g (fun _ τ=>⟨_,.box (.no Y) Y Y Y Y Y τ⟩)<|.as Y<|.z<|.seq<|.rs fun k3=>?_
 refine .mv Y<|.g (fun _ τ=>⟨_,.makeFunc (.no Y) Y Y Y Y Y τ⟩)<|.g (fun _ τ=>⟨_,.call (.no Y) Y [[3]] [([3],(k2,k2,.box [.d (.fn F_p first_p caps_p)]))] (c_ContainsFuncI l 172 [] [.pt false [.fn F_p first_p caps_p]] (fun x0=>!p x0) (fun x0=>c_areAll1I x0 F_p first_p caps_p p h_p)) Y Y Y Y Y (.dd (.cons (Reads.clo0 (.cons (Reads.ptr0 (.head _) (.head _) (.cons (Reads.d _) .nil)) .nil)).gives .nil)) Y Y (fun _=>(ownCons (Owned.v _) ownNil)) (.own [7,0] .nil) (.nil) Y Y Y (AllH.get (.r Y)) Y Y Y τ⟩)<|.un Y<|.as Y<|.z<|.ret ?_
 exact fin0 (.inr Y) (.one (svB (show (!(l.any (fun x0=>!p x0)))=(l.all p) by exact not_any _ _)) .nil) (.dd .nil) Y
theorem c_isLetter (c:Int):Trip Tryz.prog 162 [(false,1)] ([.v (.int .u8 (c))]) [(false,1)] [.v (.bool (decide (c≥97)&&decide (c≤122)))] []:=by
 refine Trip.of Tryz.func162 (by decide) (c:=_) Y Y (Nat.le_of_ble_eq_true Y) Y (AftOk.nil _)<|.seq<|.rs fun k1=>.as Y<|.z<|.seq ?_
 refine .reg (X:=Unit) (fun ζ=>.of [(2,.one (.d (.v (.bool ((decide (c≥97)&&decide (c≤122)))))))] []) [⟨[0],some 3,[],[]⟩,⟨[3],some 4,[],[]⟩,⟨[4],some 5,[],[]⟩,⟨[5,0],some 6,[],[]⟩,⟨[5,6],some 7,[],[]⟩,⟨[5,7],some 8,[],[]⟩,⟨[8],some 2,[],[]⟩] (fun k2=>?_) ?_
 ·skip
  refine .move (.no Y) Y Y Y Y<|.bin (.no Y) Y Y Y Y Y Y<|.moveB (.no Y) Y Y Y Y fun b3 g1_2=>?_
  cases b3
  ·skip
   refine .off Y Y Y Y Y Y Y<|.off Y Y Y Y Y Y Y<|.pick (.no Y) Y Y Y Y Y<|.assign (.no Y) Y Y Y Y ?_
   exact .fin () (.of (.cons (svB (show (false)=((decide (c≥97)&&decide (c≤122))) by first | (simp only [g1_2,Bool.true_or,Bool.false_or,Bool.true_and,Bool.false_and,Bool.not_true,Bool.not_false]; done) | (simp [g1_2]; done) | (exfalso; simp_all; done))) .nil) .nil)
  ·skip
   refine .move (.on Y Y Y Y Y) Y Y Y Y<|.bin (.on Y Y Y Y Y) Y Y Y Y Y Y<|.pick (.no Y) Y Y Y Y Y<|.assign (.no Y) Y Y Y Y ?_
   exact .fin () (.of (.cons (svB (show (decide (c≤122))=((decide (c≥97)&&decide (c≤122))) by first | (simp only [g1_2,Bool.true_or,Bool.false_or,Bool.true_and,Bool.false_and,Bool.not_true,Bool.not_false]; done) | (simp [g1_2]; done) | (exfalso; simp_all; done))) .nil) .nil)
 intro _
 refine .ret ?_
 exact fin0 (.inr Y) (.one (svB (show ((decide (c≥97)&&decide (c≤122)))=(decide (c≥97)&&decide (c≤122)) by rfl)) .nil) (.dd .nil) Y
theorem c_within (n:Int) (lo:Int) (hi:Int):Trip Tryz.prog 72 [(false,1),(false,1),(false,1)] ([.v (.int .i64 (n))]++[.v (.int .i64 (lo))]++[.v (.int .i64 (hi))]) [(false,1)] [.v (.bool (inR n lo hi))] []:=by
 refine Trip.of Tryz.func72 (by decide) (c:=_) Y Y (Nat.le_of_ble_eq_true Y) Y (AftOk.nil _)<|.seq<|.rs fun k1=>.as Y<|.z<|.seq ?_
 refine .reg (X:=Unit) (fun ζ=>.of [(6,.one (.d (.v (.bool ((decide (lo≤n)&&decide (n≤hi)))))))] []) [⟨[1],some 7,[],[]⟩,⟨[0],some 8,[],[]⟩,⟨[7,8],some 9,[],[]⟩,⟨[9],some 10,[],[]⟩,⟨[10,0],some 11,[],[]⟩,⟨[10,2],some 12,[],[]⟩,⟨[10,11,12],some 13,[],[]⟩,⟨[10,13],some 14,[],[]⟩,⟨[14],some 6,[],[]⟩] (fun k2=>?_) ?_
 ·skip
  refine .move (.no Y) Y Y Y Y<|.move (.no Y) Y Y Y Y<|.bin (.no Y) Y Y Y Y Y Y<|.moveB (.no Y) Y Y Y Y fun b3 g1_3=>?_
  cases b3
  ·skip
   refine .off Y Y Y Y Y Y Y<|.off Y Y Y Y Y Y Y<|.off Y Y Y Y Y Y Y<|.pick (.no Y) Y Y Y Y Y<|.assign (.no Y) Y Y Y Y ?_
   exact .fin () (.of (.cons (svB (show (false)=((decide (lo≤n)&&decide (n≤hi))) by first | (simp only [g1_3,Bool.true_or,Bool.false_or,Bool.true_and,Bool.false_and,Bool.not_true,Bool.not_false]; done) | (simp [g1_3]; done) | (exfalso; simp_all; done))) .nil) .nil)
  ·skip
   refine .move (.on Y Y Y Y Y) Y Y Y Y<|.move (.on Y Y Y Y Y) Y Y Y Y<|.bin (.on Y Y Y Y Y) Y Y Y Y Y Y<|.pick (.no Y) Y Y Y Y Y<|.assign (.no Y) Y Y Y Y ?_
   exact .fin () (.of (.cons (svB (show (decide (n≤hi))=((decide (lo≤n)&&decide (n≤hi))) by first | (simp only [g1_3,Bool.true_or,Bool.false_or,Bool.true_and,Bool.false_and,Bool.not_true,Bool.not_false]; done) | (simp [g1_3]; done) | (exfalso; simp_all; done))) .nil) .nil)
 intro _
 refine .ret ?_
 exact fin0 (.inr Y) (.one (svB (show ((decide (lo≤n)&&decide (n≤hi)))=(inR n lo hi) by rfl)) .nil) (.dd .nil) Y
theorem c_IndexS (l:List ByteArray) (s:ByteArray):Trip Tryz.prog 164 [(false,1),(false,1)] ([.sl false 9 1 (List.map strc (l))]++[.v (.string (s))]) [(false,1)] [.v (.int .i64 (idx (fun x=>strEq s x) l))] []:=by
 refine Trip.of Tryz.func164 (by decide) (c:=_) Y Y (Nat.le_of_ble_eq_true Y) Y (AftOk.nil _)<|.sl (t:=0) Y fun hs1l=>.seq<|.rs fun k2=>.as Y<|.z<|.seq<|.seq<|.rs fun k3=>?_
 refine .mv Y<|.g (fun _ τ=>⟨_,.len (.no Y) Y (z:=(l.length:Int)) t22 Y Y Y (.d _ _) (map_len _ _) Y τ⟩)<|.mv Y<|.z<|.block ?_
 refine .loop (X:=Nat) (fun ζ=>.of [(0,.one (.d (.sl false 9 1 (List.map strc (l))))),(1,.one (.d (.v (.string (s))))),(7,.one (.d (.v (.int .i64 ((l.length:Int)))))),(8,.one (.d (.v (.int .i64 ((ζ:Int))))))] []) (fun ζ=>ζ≤l.length∧allTo ζ (fun i=>!strEq s (l.getD i default))=true) (fun ζ=>l.length - ζ) ?_ ?_
 ·skip
  exact .here 0 (.of (.cons Y (.cons Y (.cons Y (.cons (svI (show (0)=((0:Int)) by first | rfl | omega | exact wrap_le (by omega) (by omega) | (rw [wrap_le (by omega) (by omega)]; omega))) .nil)))) .nil) (show 0≤l.length∧allTo 0 (fun i=>!strEq s (l.getD i default))=true by exact ⟨by omega,rfl⟩)
 ·rintro j hI
  have hI:j≤l.length∧allTo j (fun i=>!strEq s (l.getD i default))=true:=hI
  refine .seq<|.rs fun k4=>.bi Y<|.z<|.seq ?_
  refine .cond (t:=decide ((j:Int) < (l.length:Int))) Y (fun c0=>?_) (fun c0=>?_)
  ·have c0:=of_decide_eq_true c0
   refine .skip<|.seq<|.block<|.seq<|.rs fun k5=>.mv Y<|.as Y<|.z<|.seq ?_
   refine .rs fun k6=>.mv Y<|.mv Y<|.mv Y<|.g (fun _ τ=>⟨_,.indexAddr (.no Y) Y (j) t22 Y t9 Y Y Y (.d _ _) Y Y Y (map_get (by omega)) Y Y τ⟩)<|.ld t9 Y (.d _) Y<|.bi Y<|.z ?_
   refine .cond (t:=s.toList == (l.getD j default).toList) Y (fun c1=>?_) (fun c1=>?_)
   ·have c1:=c1
    refine .seq<|.rs fun k7=>.mv Y<|.as Y<|.z<|.ret ?_
    exact fin0 (.inr Y) (.one (svI (show ((j:Int))=(idx (fun x=>strEq s x) l) by exact (idx_found (p:=fun x=>strEq s x) (by omega) hI.2 c1).symm)) .nil) (.dd .nil) Y
   ·have c1:=c1
    refine .skip<|.rs fun k9=>.bi Y<|.mv Y<|.z ?_
    exact .here (j+1) (.of (.cons Y (.cons Y (.cons Y (.cons (svI (show (IntKind.wrap .i64 ((j:Int)+1))=(((j+1):Int)) by first | rfl | omega | exact wrap_le (by omega) (by omega) | (rw [wrap_le (by omega) (by omega)]; omega))) .nil)))) .nil) ⟨(show (j+1)≤l.length∧allTo (j+1) (fun i=>!strEq s (l.getD i default))=true by exact ⟨by omega,allTo_step hI.2 (by rw [show strEq s (l.getD j default)=false from c1]; rfl)⟩),(show l.length - (j+1) < l.length - j by omega)⟩
  ·have c0:=of_decide_eq_false c0
   refine .exit<|.seq<|.rs fun k10=>.as Y<|.z<|.ret ?_
   exact fin0 (.inr Y) (.one (svI (show (-1)=(idx (fun x=>strEq s x) l) by exact (idx_none (p:=fun x=>strEq s x) (by omega) hI.2).symm)) .nil) (.dd .nil) Y
theorem c_ContainsS (l:List ByteArray) (s:ByteArray):Trip Tryz.prog 124 [(false,1),(false,1)] ([.sl false 9 1 (List.map strc (l))]++[.v (.string (s))]) [(false,1)] [.v (.bool (l.any fun x=>strEq s x))] []:=by
 refine Trip.of Tryz.func124 (by decide) (c:=_) Y Y (Nat.le_of_ble_eq_true Y) Y (AftOk.nil _)<|.sl (t:=0) Y fun hs1l=>.seq<|.rs fun k2=>.as Y<|.z<|.seq<|.rs fun k3=>.mv Y ?_
 refine .mv Y<|.c0 (c_IndexS l s) Y (.dd (.dd .nil)) (.own [7,0] .nil) Y<|.bi Y<|.as Y<|.z<|.ret ?_
 exact fin0 (.inr Y) (.one (svB (show (decide ((idx (fun x=>strEq s x) l)≥0))=(l.any fun x=>strEq s x) by exact idx_any _ _)) .nil) (.dd .nil) Y
theorem asciiTab {W:World} {Z:Nat→Prop} (h:Laid W Z):∀ c:Nat,c < 256→W.cell? ⟨0,c,none⟩=some (.int .u8 (if Lib.isSp (UInt8.ofNat c) then 1 else 0)):=fun c hc=>by
  obtain ⟨_,h2⟩:=h _ (List.mem_singleton.2 Y)
  obtain ⟨v,h3,h4⟩:=h2 c (.v (.int .u8 (if Lib.isSp (UInt8.ofNat c) then 1 else 0))) (by simp [hc])
  cases h4; exact h3
def words:ByteArray:=(⟨#[118,97,114,32,102,108,97,103,32,97,114,114,97,121,32,105,102,32,102,111,114,107,32,101,108,115,101,32,101,110,100,32,119,104,105,108,101,32,117,110,114,111,108,108,32,97,115,115,101,114,116,32,97,115,115,117,109,101,32,105,110,112,117,116,32,115,112,108,105,116,32,109,101,114,103,101,32,116,114,117,101,32,102,97,108,115,101]⟩:ByteArray)
theorem words_ascii:∀ (j:Nat) b,words.data.toList[j]?=some b→b.toNat < 128:=fun j b h=>by
  have h1:(words.data.toList.all fun b=>decide (b.toNat < 128))=true:=by kernel_rfl
  exact of_decide_eq_true (List.all_eq_true.1 h1 b (List.mem_of_getElem? h))
theorem words_fields:Lib.fields words.data.toList=keys.map fun k=>k.data.toList:=by kernel_rfl
theorem c_Fields:Trip Tryz.prog 179 [(false,1)] ([.v (.string (⟨#[118,97,114,32,102,108,97,103,32,97,114,114,97,121,32,105,102,32,102,111,114,107,32,101,108,115,101,32,101,110,100,32,119,104,105,108,101,32,117,110,114,111,108,108,32,97,115,115,101,114,116,32,97,115,115,117,109,101,32,105,110,112,117,116,32,115,112,108,105,116,32,109,101,114,103,101,32,116,114,117,101,32,102,97,108,115,101]⟩:ByteArray))]) [(false,1)] [.sl true 9 1 (List.map strc (keys))] []:=by
  have h:=Trip.row1 (P:=Tryz.prog) (f:=179) (x:=.string words) (cs:=keys.map .string) (e:=9) ⟨_,Tryz.func179,by decide,by decide⟩ rfl (by intro v hv; obtain ⟨s,_,rfl⟩:=List.mem_map.1 hv; rfl) (by decide) fun W Z hL _ =>
    (Any.strings_Fields_core Tryz.lays157 (by kernel_rfl) words W (by decide) words_ascii (asciiTab hL)).mono fun e w' ⟨h1,h2⟩=>by
      rw [words_fields] at h1 h2
      exact ⟨h1,h2⟩
  exact h
theorem c_isWord (s:ByteArray):Trip Tryz.prog 163 [(false,1)] ([.v (.string (s))]) [(false,1)] [.v (.bool (isKey s))] []:=by
 refine Trip.of Tryz.func163 (by decide) (c:=_) Y Y (Nat.le_of_ble_eq_true Y) Y (AftOk.nil _)<|.seq<|.rs fun k1=>.as Y<|.z<|.seq<|.rs fun k2=>.c0 (c_Fields ) Y (.dd .nil) (.frz [3,0] (Frz.of_erase (erase_slo _ _ _ _ _ _ strc_e)) .nil) Y<|.mv Y ?_
 refine .c0 (c_ContainsS keys s) Y (.dd (.dd .nil)) (.own [5,0] .nil) Y<|.as Y<|.z<|.ret ?_
 exact fin0 (.inr Y) (.one (svB (show (keys.any fun x=>strEq s x)=(isKey s) by exact isKey_eq s)) .nil) (.dd .nil) Y
theorem c_isName (s:ByteArray) (hs:s.size≤9223372036854775807):Trip Tryz.prog 123 [(false,1)] ([.v (.string (s))]) [(false,1)] [.v (.bool (nmOk s))] []:=by
 refine Trip.of Tryz.func123 (by decide) (c:=_) Y Y (Nat.le_of_ble_eq_true Y) Y (AftOk.nil _)<|.seq<|.rs fun k1=>.as Y<|.z<|.seq<|.seq<|.rs fun k2=>.mv Y ?_
 refine .g (fun _ τ=>⟨_,.lenStr (.no Y) Y t9 Y Y Y Y Y τ⟩)<|.mv Y<|.z<|.block ?_
 refine .loop (X:=Nat) (fun ζ=>.of [(0,.one (.d (.v (.string (s))))),(5,.one (.d (.v (.int .i64 ((s.size:Int)))))),(6,.one (.d (.v (.int .i64 ((ζ:Int))))))] []) (fun ζ=>ζ≤s.size∧allTo ζ (fun i=>decide (97≤byteAt s i∧byteAt s i≤122))=true) (fun ζ=>s.size - ζ) ?_ ?_
 ·skip
  exact .here 0 (.of (.cons Y (.cons Y (.cons (svI (show (0)=((0:Int)) by first | rfl | omega | exact wrap_le (by omega) (by omega) | (rw [wrap_le (by omega) (by omega)]; omega))) .nil))) .nil) (show 0≤s.size∧allTo 0 (fun i=>decide (97≤byteAt s i∧byteAt s i≤122))=true by exact ⟨by omega,rfl⟩)
 ·rintro j hI
  have hI:j≤s.size∧allTo j (fun i=>decide (97≤byteAt s i∧byteAt s i≤122))=true:=hI
  refine .seq<|.rs fun k3=>.bi Y<|.z<|.seq ?_
  refine .cond (t:=decide ((j:Int) < (s.size:Int))) Y (fun c0=>?_) (fun c0=>?_)
  ·have c0:=of_decide_eq_true c0
   refine .skip<|.seq<|.block<|.seq<|.rs fun k4=>.mv Y<|.as Y<|.z<|.seq ?_
   refine .rs fun k5=>.mv Y<|.mv Y<|.g (fun _ τ=>⟨_,.indexStr (.no Y) Y (z:=byteAt s j) (j) t9 Y Y Y Y Y (b8_get (by omega)) Y Y τ⟩)<|.c0 (c_isLetter (byteAt s j)) Y (.dd .nil) (.own [12,0] .nil) Y<|.un Y<|.z ?_
   refine .cond (t:=!(decide ((byteAt s j)≥97)&&decide ((byteAt s j)≤122))) Y (fun c1=>?_) (fun c1=>?_)
   ·have c1:=(nT (aF dF dF)) c1
    refine .seq<|.rs fun k6=>.as Y<|.z<|.ret ?_
    exact fin0 (.inr Y) (.one (svB (show (false)=(nmOk s) by (simp only [nmOk,letters]; rw [allTo_fail (j:=j) (by omega) (by simp only [decide_eq_false_iff_not]; omega)]; rfl))) .nil) (.dd .nil) Y
   ·have c1:=(nF (aT dT dT)) c1
    refine .skip<|.rs fun k8=>.bi Y<|.mv Y<|.z ?_
    exact .here (j+1) (.of (.cons Y (.cons Y (.cons (svI (show (IntKind.wrap .i64 ((j:Int)+1))=(((j+1):Int)) by first | rfl | omega | exact wrap_le (by omega) (by omega) | (rw [wrap_le (by omega) (by omega)]; omega))) .nil))) .nil) ⟨(show (j+1)≤s.size∧allTo (j+1) (fun i=>decide (97≤byteAt s i∧byteAt s i≤122))=true by exact ⟨by omega,allTo_step hI.2 (by simp only [decide_eq_true_eq]; omega)⟩),(show s.size - (j+1) < s.size - j by omega)⟩
  ·have c0:=of_decide_eq_false c0
   refine .exit<|.seq ?_
   refine .reg (X:=Unit) (fun ζ=>.of [(2,.one (.d (.v (.bool ((inR (s.size:Int) 1 8&&!(isKey s)))))))] []) [⟨[0],some 15,[],[]⟩,⟨[15],some 16,[],[]⟩,⟨[16],some 17,[],[]⟩,⟨[17],some 18,[],[]⟩,⟨[18,0],some 19,[],[]⟩,⟨[18,19],some 20,[],[]⟩,⟨[18,20],some 21,[],[]⟩,⟨[18,21],some 22,[],[]⟩,⟨[22],some 2,[],[]⟩] (fun k9=>?_) ?_
   ·skip
    refine .move (.no Y) Y Y Y Y<|.lenStr (.no Y) Y t9 Y Y Y Y Y<|.call (.no Y) Y [] [] (c_within (s.size:Int) 1 8) Y Y Y Y Y (.dd (.dd (.dd .nil))) Y Y (fun h=>absurd Y h) (.own [17,0] .nil) (.nil) Y Y Y (by simp) Y Y Y<|.moveB (.no Y) Y Y Y Y fun b10 g7_3=>?_
    cases b10
    ·skip
     refine .off Y Y Y Y Y Y Y<|.off Y Y Y Y Y Y Y<|.off Y Y Y Y Y Y Y<|.pick (.no Y) Y Y Y Y Y<|.assign (.no Y) Y Y Y Y ?_
     exact .fin () (.of (.cons (svB (show (false)=((inR (s.size:Int) 1 8&&!(isKey s))) by first | (simp only [g7_3,Bool.true_or,Bool.false_or,Bool.true_and,Bool.false_and,Bool.not_true,Bool.not_false]; done) | (simp [g7_3]; done) | (exfalso; simp_all; done))) .nil) .nil)
    ·skip
     refine .move (.on Y Y Y Y Y) Y Y Y Y<|.call (.on Y Y Y Y Y) Y [] [] (c_isWord s) Y Y Y Y Y (.dd .nil) Y Y (fun h=>absurd Y h) (.own [20,0] .nil) (.nil) Y Y Y (by simp) Y Y Y<|.un (.on Y Y Y Y Y) Y Y Y Y Y<|.pick (.no Y) Y Y Y Y Y<|.assign (.no Y) Y Y Y Y ?_
     exact .fin () (.of (.cons (svB (show (!(isKey s))=((inR (s.size:Int) 1 8&&!(isKey s))) by first | (simp only [g7_3,Bool.true_or,Bool.false_or,Bool.true_and,Bool.false_and,Bool.not_true,Bool.not_false]; done) | (simp [g7_3]; done) | (exfalso; simp_all; done))) .nil) .nil)
   intro _
   refine .ret ?_
   exact fin0 (.inr Y) (.one (svB (show ((inR (s.size:Int) 1 8&&!(isKey s)))=(nmOk s) by (have hj:j=s.size:=(by omega); subst hj; simp only [nmOk,letters]; rw [hI.2]; rfl))) .nil) (.dd .nil) Y
theorem c_isRight1 (a:Arr):Trip Tryz.prog 125 [(true,2)] (Arr.c a) [(false,1)] [.v (.bool (inR a.size 1 16))] []:=by
 refine Trip.of Tryz.func125 (by decide) (c:=_) Y Y (Nat.le_of_ble_eq_true Y) Y (AftOk.nil _)<|.seq<|.rs fun k1=>.g (fun _ τ=>⟨_,.box (.no Y) Y Y Y Y Y τ⟩)<|.as Y<|.z<|.seq<|.rs fun k2=>.fp t120 t2 Y ?_
 refine .ld t2 Y (.ptr _ _ _ _ _ Y) Y<|.c0 (c_within a.size 1 16) Y (.dd (.dd (.dd .nil))) (.own [5,0] .nil) Y<|.as Y<|.z<|.ret ?_
 exact fin0 (.inr Y) (.one Y .nil) (.dd .nil) Y
theorem c_isRight (d:Decl) (hs:∀ x∈Decl.names d,x.size≤9223372036854775807) (hb:d.vars.length≤1048576∧d.flags.length≤1048576∧d.arrays.length≤1048576):Trip Tryz.prog 90 [(true,3)] (Decl.c40 d) [(false,1)] [.v (.bool (Decl.ok d))] []:=by
 refine Trip.of Tryz.func90 (by decide) (c:=_) Y Y (Nat.le_of_ble_eq_true Y) Y (AftOk.nil _)<|.sla (t:=0) 0 Y Y fun hs1l=>.sla (t:=0) 1 Y Y fun hs2l=>.sla (t:=0) 2 Y Y fun hs3l=>.seq<|.rs fun k4=>.g (fun _ τ=>⟨_,.box (.no Y) Y Y Y Y Y τ⟩)<|.as Y<|.z ?_
 refine .seq<|.rs fun k5=>.lda t40 Y (.ptr _ _ _ _ _ Y) Y<|.c0 (c_names d (by first | assumption | omega | exact hs _ (getD_mem (by omega)))) Y (.dd (.dd (.dd .nil))) (.frz [8,0] (Frz.of_erase (erase_slo _ _ _ _ _ _ strc_e)) .nil) Y<|.as Y<|.z<|.seq<|.seq<|.rs fun k6=>?_
 refine .mv Y<|.g (fun _ τ=>⟨_,.len (.no Y) Y (z:=((Decl.names d).length:Int)) t22 Y Y Y (.d _ _) (map_len _ _) Y τ⟩)<|.mv Y<|.z<|.block ?_
 refine .loop (X:=Nat) (fun ζ=>.of [(1,.one (.ptr [1] (k4) 0)),(3,.one (.d (.sl false 9 1 (List.map strc (Decl.names d))))),(9,.one (.d (.sl false 9 1 (List.map strc (Decl.names d))))),(10,.one (.d (.v (.int .i64 (((Decl.names d).length:Int)))))),(11,.one (.d (.v (.int .i64 ((ζ:Int))))))] [([1],(k4,k4,.box [.d (.sl false 9 1 (List.map strc (d.vars))),.d (.sl false 9 1 (List.map strc (d.flags))),.d (.sl false 120 2 (List.map Arr.c (d.arrays)))]))]) (fun ζ=>ζ≤(Decl.names d).length∧allTo ζ (nameOk (Decl.names d))=true) (fun ζ=>(Decl.names d).length - ζ) ?_ ?_
 ·skip
  exact .here 0 (.of (.cons Y (.cons Y (.cons Y (.cons Y (.cons (svI (show (0)=((0:Int)) by first | rfl | omega | exact wrap_le (by omega) (by omega) | (rw [wrap_le (by omega) (by omega)]; omega))) .nil))))) (.r Y)) (show 0≤(Decl.names d).length∧allTo 0 (nameOk (Decl.names d))=true by exact ⟨by omega,rfl⟩)
 ·rintro j hI
  have hI:j≤(Decl.names d).length∧allTo j (nameOk (Decl.names d))=true:=hI
  have hn9:(Decl.names d).length≤3145728:=by simp [Decl.names]; omega
  refine .seq<|.rs fun k7=>.bi Y<|.z<|.seq ?_
  refine .cond (t:=decide ((j:Int) < ((Decl.names d).length:Int))) Y (fun c0=>?_) (fun c0=>?_)
  ·have c0:=of_decide_eq_true c0
   refine .skip<|.seq<|.block<|.seq<|.rs fun k8=>.mv Y<|.g (fun _ τ=>⟨_,.indexAddr (.no Y) Y (j) t22 Y t9 Y Y Y (.d _ _) Y Y Y (map_get (by omega)) Y Y τ⟩)<|.ld t9 Y (.d _) Y<|.as Y ?_
   refine .as Y<|.z<|.seq ?_
   refine .reg (X:=Unit) (fun ζ=>.of [(1,.one (.ptr [1] (k4) 0)),(3,.one (.d (.sl false 9 1 (List.map strc (Decl.names d))))),(9,.one (.d (.sl false 9 1 (List.map strc (Decl.names d))))),(10,.one (.d (.v (.int .i64 (((Decl.names d).length:Int)))))),(11,.one (.d (.v (.int .i64 ((j:Int)))))),(25,.one (.d (.v (.bool ((!(nmOk ((Decl.names d).getD (j) default))||((Decl.names d).take j).any fun x=>strEq ((Decl.names d).getD (j) default) x))))))] [([1],(k4,k4,.box [.d (.sl false 9 1 (List.map strc (d.vars))),.d (.sl false 9 1 (List.map strc (d.flags))),.d (.sl false 120 2 (List.map Arr.c (d.arrays)))]))]) [⟨[5],some 16,[],[]⟩,⟨[16],some 17,[],[]⟩,⟨[17],some 18,[],[]⟩,⟨[18],some 19,[],[]⟩,⟨[19,3],some 20,[],[]⟩,⟨[19,4],some 21,[],[]⟩,⟨[19,20,21],some 22,[],[]⟩,⟨[19,5],some 23,[],[]⟩,⟨[19,22,23],some 24,[],[]⟩,⟨[19,24],some 25,[],[]⟩] (fun k9=>?_) ?_
   ·skip
    refine .move (.no Y) Y Y Y Y<|.call (.no Y) Y [] [] (c_isName ((Decl.names d).getD (j) default) (by first | assumption | omega | exact hs _ (getD_mem (by omega)))) Y Y Y Y Y (.dd .nil) Y Y (fun h=>absurd Y h) (.own [17,0] .nil) (.nil) Y Y Y (by simp) Y Y Y<|.un (.no Y) Y Y Y Y Y<|.moveB (.no Y) Y Y Y Y fun b10 g5_3=>?_
    cases b10
    ·skip
     refine .move (.on Y Y Y Y Y) Y Y Y Y<|.move (.on Y Y Y Y Y) Y Y Y Y<|.slice (.on Y Y Y Y Y) Y (lv:=0) (hv:=j) (m:=0) t22 Y t9 Y Y (.d _ _) Y (by intro _ _ h; cases h) (by exact rfl) (by exact ⟨_,rfl⟩) (Nat.zero_le _) (le_map (by omega)) (cut_d0 _ _ _ _ _ _ _ _ _) Y<|.move (.on Y Y Y Y Y) Y Y Y Y<|.call (.on Y Y Y Y Y) Y [] [] (c_ContainsS ((Decl.names d).take j) ((Decl.names d).getD (j) default)) Y Y Y Y Y (.dd (.dd .nil)) Y Y (fun h=>absurd Y h) (.own [24,0] .nil) (.nil) Y Y Y (by simp) Y Y Y<|.pick (.no Y) Y Y Y Y Y ?_
     exact .fin () (.of (.cons Y (.cons Y (.cons Y (.cons Y (.cons Y (.cons (svB (show (((Decl.names d).take j).any fun x=>strEq ((Decl.names d).getD (j) default) x)=((!(nmOk ((Decl.names d).getD (j) default))||((Decl.names d).take j).any fun x=>strEq ((Decl.names d).getD (j) default) x)) by first | (simp only [g5_3,Bool.true_or,Bool.false_or,Bool.true_and,Bool.false_and,Bool.not_true,Bool.not_false]; done) | (simp [g5_3]; done) | (exfalso; simp_all; done))) .nil)))))) (.r Y))
    ·skip
     refine .off Y Y Y Y Y Y Y<|.off Y Y Y Y Y Y Y<|.off Y Y Y Y Y Y Y<|.off Y Y Y Y Y Y Y<|.off Y Y Y Y Y Y Y<|.pick (.no Y) Y Y Y Y Y ?_
     exact .fin () (.of (.cons Y (.cons Y (.cons Y (.cons Y (.cons Y (.cons (svB (show (true)=((!(nmOk ((Decl.names d).getD (j) default))||((Decl.names d).take j).any fun x=>strEq ((Decl.names d).getD (j) default) x)) by first | (simp only [g5_3,Bool.true_or,Bool.false_or,Bool.true_and,Bool.false_and,Bool.not_true,Bool.not_false]; done) | (simp [g5_3]; done) | (exfalso; simp_all; done))) .nil)))))) (.r Y))
   intro _
   refine .cond (t:=(!(nmOk ((Decl.names d).getD (j) default))||((Decl.names d).take j).any fun x=>strEq ((Decl.names d).getD (j) default) x)) Y (fun c1=>?_) (fun c1=>?_)
   ·have c1:=(oT (nT id) id) c1
    refine .seq<|.rs fun k11=>.as Y<|.z<|.ret ?_
    exact fin0 (.inr Y) (.one (svB (show (false)=(Decl.ok d) by exact (Decl.ok_name2 (j:=j) (by omega) c1).symm)) .nil) (.dd .nil) Y
   ·have c1:=(oF (nF id) id) c1
    refine .skip<|.rs fun k13=>.bi Y<|.mv Y<|.z ?_
    exact .here (j+1) (.of (.cons Y (.cons Y (.cons Y (.cons Y (.cons (svI (show (IntKind.wrap .i64 ((j:Int)+1))=(((j+1):Int)) by first | rfl | omega | exact wrap_le (by omega) (by omega) | (rw [wrap_le (by omega) (by omega)]; omega))) .nil))))) (.r Y)) ⟨(show (j+1)≤(Decl.names d).length∧allTo (j+1) (nameOk (Decl.names d))=true by exact ⟨by omega,allTo_step hI.2 (nameOk_of2 c1)⟩),(show (Decl.names d).length - (j+1) < (Decl.names d).length - j by omega)⟩
  ·have c0:=of_decide_eq_false c0
   refine .exit<|.seq<|.rs fun k14=>.as Y<|.z<|.seq ?_
   refine .reg (X:=Unit) (fun ζ=>.of [(2,.one (.d (.v (.bool ((((decide ((d.vars.length:Int)≤5)&&decide ((d.flags.length:Int)≤3))&&decide ((d.arrays.length:Int)≤2))&&d.arrays.all (fun x0=>inR x0.size 1 16)))))))] []) [⟨[1],some 27,[],[]⟩,⟨[27],some 28,[[1]],[]⟩,⟨[28],some 29,[],[]⟩,⟨[29],some 30,[],[]⟩,⟨[30],some 31,[],[]⟩,⟨[31,1],some 32,[],[]⟩,⟨[31,32],some 33,[[1]],[]⟩,⟨[31,33],some 34,[],[]⟩,⟨[31,34],some 35,[],[]⟩,⟨[31,35],some 36,[],[]⟩,⟨[36],some 37,[],[]⟩,⟨[37,1],some 38,[],[]⟩,⟨[37,38],some 39,[[1]],[]⟩,⟨[37,39],some 40,[],[]⟩,⟨[37,40],some 41,[],[]⟩,⟨[37,41],some 42,[],[]⟩,⟨[42],some 43,[],[]⟩,⟨[43,1],some 44,[],[]⟩,⟨[43,44],some 45,[[1]],[]⟩,⟨[43,6],some 46,[],[]⟩,⟨[43,45,46],some 47,[],[]⟩,⟨[43,47],some 48,[],[]⟩,⟨[48],some 2,[],[]⟩] (fun k15=>?_) ?_
   ·skip
    refine .fieldAddrP (.no Y) Y t40 Y Y t22 Y Y Y Y<|.load (.no Y) Y t22 Y Y (.ptr _ _ _ _ _ Y) Y Y Y Y<|.len (.no Y) Y (z:=(d.vars.length:Int)) t22 Y Y Y (.d _ _) (map_len _ _) Y<|.bin (.no Y) Y Y Y Y Y Y<|.moveB (.no Y) Y Y Y Y fun b16 g9_4=>?_
    cases b16
    ·skip
     refine .off Y Y Y Y Y Y Y<|.off Y Y Y Y Y Y Y<|.off Y Y Y Y Y Y Y<|.off Y Y Y Y Y Y Y<|.pick (.no Y) Y Y Y Y Y<|.move (.no Y) Y Y Y Y<|.off Y Y Y Y Y Y Y<|.off Y Y Y Y Y Y Y<|.off Y Y Y Y Y Y Y ?_
     refine .off Y Y Y Y Y Y Y<|.pick (.no Y) Y Y Y Y Y<|.move (.no Y) Y Y Y Y<|.off Y Y Y Y Y Y Y<|.off Y Y Y Y Y Y Y<|.off Y Y Y Y Y Y Y<|.off Y Y Y Y Y Y Y<|.pick (.no Y) Y Y Y Y Y<|.assign (.no Y) Y Y Y Y ?_
     exact .fin () (.of (.cons (svB (show (false)=((((decide ((d.vars.length:Int)≤5)&&decide ((d.flags.length:Int)≤3))&&decide ((d.arrays.length:Int)≤2))&&d.arrays.all (fun x0=>inR x0.size 1 16))) by first | (simp only [g9_4,Bool.true_or,Bool.false_or,Bool.true_and,Bool.false_and,Bool.not_true,Bool.not_false]; done) | (simp [g9_4]; done) | (exfalso; simp_all; done))) .nil) .nil)
    ·skip
     refine .fieldAddrP (.on Y Y Y Y Y) Y t40 Y Y t22 Y Y Y Y<|.load (.on Y Y Y Y Y) Y t22 Y Y (.ptr _ _ _ _ _ Y) Y Y Y Y<|.len (.on Y Y Y Y Y) Y (z:=(d.flags.length:Int)) t22 Y Y Y (.d _ _) (map_len _ _) Y<|.bin (.on Y Y Y Y Y) Y Y Y Y Y Y<|.pick (.no Y) Y Y Y Y Y<|.moveB (.no Y) Y Y Y Y fun b17 g9_10=>?_
     cases b17
     ·skip
      refine .off Y Y Y Y Y Y Y<|.off Y Y Y Y Y Y Y<|.off Y Y Y Y Y Y Y<|.off Y Y Y Y Y Y Y<|.pick (.no Y) Y Y Y Y Y<|.move (.no Y) Y Y Y Y<|.off Y Y Y Y Y Y Y<|.off Y Y Y Y Y Y Y<|.off Y Y Y Y Y Y Y ?_
      refine .off Y Y Y Y Y Y Y<|.pick (.no Y) Y Y Y Y Y<|.assign (.no Y) Y Y Y Y ?_
      exact .fin () (.of (.cons (svB (show (false)=((((decide ((d.vars.length:Int)≤5)&&decide ((d.flags.length:Int)≤3))&&decide ((d.arrays.length:Int)≤2))&&d.arrays.all (fun x0=>inR x0.size 1 16))) by first | (simp only [g9_4,g9_10,Bool.true_or,Bool.false_or,Bool.true_and,Bool.false_and,Bool.not_true,Bool.not_false]; done) | (simp [g9_4,g9_10]; done) | (exfalso; simp_all; done))) .nil) .nil)
     ·skip
      refine .fieldAddrP (.on Y Y Y Y Y) Y t40 Y Y t38 Y Y Y Y<|.load (.on Y Y Y Y Y) Y t38 Y Y (.ptr _ _ _ _ _ Y) Y Y Y Y<|.len (.on Y Y Y Y Y) Y (z:=(d.arrays.length:Int)) t38 Y Y Y (.d _ _) (map_len _ _) Y<|.bin (.on Y Y Y Y Y) Y Y Y Y Y Y<|.pick (.no Y) Y Y Y Y Y<|.moveB (.no Y) Y Y Y Y fun b18 g9_16=>?_
      cases b18
      ·skip
       refine .off Y Y Y Y Y Y Y<|.off Y Y Y Y Y Y Y<|.off Y Y Y Y Y Y Y<|.off Y Y Y Y Y Y Y<|.pick (.no Y) Y Y Y Y Y<|.assign (.no Y) Y Y Y Y ?_
       exact .fin () (.of (.cons (svB (show (false)=((((decide ((d.vars.length:Int)≤5)&&decide ((d.flags.length:Int)≤3))&&decide ((d.arrays.length:Int)≤2))&&d.arrays.all (fun x0=>inR x0.size 1 16))) by first | (simp only [g9_4,g9_10,g9_16,Bool.true_or,Bool.false_or,Bool.true_and,Bool.false_and,Bool.not_true,Bool.not_false]; done) | (simp [g9_4,g9_10,g9_16]; done) | (exfalso; simp_all; done))) .nil) .nil)
      ·skip
       refine .fieldAddrP (.on Y Y Y Y Y) Y t40 Y Y t38 Y Y Y Y<|.load (.on Y Y Y Y Y) Y t38 Y Y (.ptr _ _ _ _ _ Y) Y Y Y Y<|.move (.on Y Y Y Y Y) Y Y Y Y<|.call (.on Y Y Y Y Y) Y [] [] (c_areAllA d.arrays 125 [] [] (fun x0=>inR x0.size 1 16) (fun x0=>c_isRight1 x0)) Y Y Y Y Y (.dd (.dd .nil)) Y Y (fun h=>absurd Y h) (.own [47,0] .nil) (.nil) Y Y Y (by simp) Y Y Y<|.pick (.no Y) Y Y Y Y Y<|.assign (.no Y) Y Y Y Y ?_
       exact .fin () (.of (.cons (svB (show (d.arrays.all (fun x0=>inR x0.size 1 16))=((((decide ((d.vars.length:Int)≤5)&&decide ((d.flags.length:Int)≤3))&&decide ((d.arrays.length:Int)≤2))&&d.arrays.all (fun x0=>inR x0.size 1 16))) by first | (simp only [g9_4,g9_10,g9_16,Bool.true_or,Bool.false_or,Bool.true_and,Bool.false_and,Bool.not_true,Bool.not_false]; done) | (simp [g9_4,g9_10,g9_16]; done) | (exfalso; simp_all; done))) .nil) .nil)
   intro _
   refine .ret ?_
   exact fin0 (.inr Y) (.one (svB (show ((((decide ((d.vars.length:Int)≤5)&&decide ((d.flags.length:Int)≤3))&&decide ((d.arrays.length:Int)≤2))&&d.arrays.all (fun x0=>inR x0.size 1 16)))=(Decl.ok d) by exact Decl.ok_right (j:=j) (by omega) hI.2)) .nil) (.dd .nil) Y
theorem c_isEnv (d:Decl) (e:Env):Trip Tryz.prog 104 [(true,3),(true,3)] (Decl.c40 d++Env.c46 e) [(false,1)] [.v (.bool (Env.okIn d e))] []:=by
 refine Trip.of Tryz.func104 (by decide) (c:=_) Y Y (Nat.le_of_ble_eq_true Y) Y (AftOk.nil _)<|.sla (t:=0) 0 Y Y fun hs1l=>.sla (t:=0) 1 Y Y fun hs2l=>.sla (t:=0) 2 Y Y fun hs3l=>.sla (t:=1) 1 Y Y fun hs4l=>.sla (t:=1) 2 Y Y fun hs5l=>.seq<|.rs fun k6=>.g (fun _ τ=>⟨_,.box (.no Y) Y Y Y Y Y τ⟩) ?_
 refine .g (fun _ τ=>⟨_,.box (.no Y) Y Y Y Y Y τ⟩)<|.as Y<|.z<|.seq<|.seq<|.rs fun k7=>.fp t46 t4 Y<|.ld t4 Y (.ptr _ _ _ _ _ Y) Y<|.un Y ?_
 refine .z ?_
 refine .cond (t:=!e.live) Y (fun c0=>?_) (fun c0=>?_)
 ·have c0:=(nT id) c0
  refine .seq ?_
  refine .reg (X:=Unit) (fun ζ=>.of [(4,.one (.d (.v (.bool (((e.ints.length:Int) == 0&&(e.arrs.length:Int) == 0))))))] []) [⟨[3],some 8,[],[]⟩,⟨[8],some 9,[[3]],[]⟩,⟨[9],some 10,[],[]⟩,⟨[10],some 11,[],[]⟩,⟨[11],some 12,[],[]⟩,⟨[12,3],some 13,[],[]⟩,⟨[12,13],some 14,[[3]],[]⟩,⟨[12,14],some 15,[],[]⟩,⟨[12,15],some 16,[],[]⟩,⟨[12,16],some 17,[],[]⟩,⟨[17],some 4,[],[]⟩] (fun k8=>?_) ?_
  ·skip
   refine .fieldAddrP (.no Y) Y t46 Y Y t44 Y Y Y Y<|.load (.no Y) Y t44 Y Y (.ptr _ _ _ _ _ Y) Y Y Y Y<|.len (.no Y) Y (z:=(e.ints.length:Int)) t44 Y Y Y (.d _ _) (map_len _ _) Y<|.bin (.no Y) Y Y Y Y Y Y<|.moveB (.no Y) Y Y Y Y fun b9 g2_4=>?_
   cases b9
   ·skip
    refine .off Y Y Y Y Y Y Y<|.off Y Y Y Y Y Y Y<|.off Y Y Y Y Y Y Y<|.off Y Y Y Y Y Y Y<|.pick (.no Y) Y Y Y Y Y<|.assign (.no Y) Y Y Y Y ?_
    exact .fin () (.of (.cons (svB (show (false)=(((e.ints.length:Int) == 0&&(e.arrs.length:Int) == 0)) by first | (simp only [g2_4,Bool.true_or,Bool.false_or,Bool.true_and,Bool.false_and,Bool.not_true,Bool.not_false]; done) | (simp [g2_4]; done) | (exfalso; simp_all; done))) .nil) .nil)
   ·skip
    refine .fieldAddrP (.on Y Y Y Y Y) Y t46 Y Y t44 Y Y Y Y<|.load (.on Y Y Y Y Y) Y t44 Y Y (.ptr _ _ _ _ _ Y) Y Y Y Y<|.len (.on Y Y Y Y Y) Y (z:=(e.arrs.length:Int)) t44 Y Y Y (.d _ _) (map_len _ _) Y<|.bin (.on Y Y Y Y Y) Y Y Y Y Y Y<|.pick (.no Y) Y Y Y Y Y<|.assign (.no Y) Y Y Y Y ?_
    exact .fin () (.of (.cons (svB (show ((e.arrs.length:Int) == 0)=(((e.ints.length:Int) == 0&&(e.arrs.length:Int) == 0)) by first | (simp only [g2_4,Bool.true_or,Bool.false_or,Bool.true_and,Bool.false_and,Bool.not_true,Bool.not_false]; done) | (simp [g2_4]; done) | (exfalso; simp_all; done))) .nil) .nil)
  intro _
  refine .ret ?_
  exact fin0 (.inr Y) (.one (svB (show (((e.ints.length:Int) == 0&&(e.arrs.length:Int) == 0))=(Env.okIn d e) by simp [Env.okIn,c0,Bool.and_assoc])) .nil) (.dd .nil) Y
 ·have c0:=(nF id) c0
  refine .skip<|.seq ?_
  refine .reg (X:=Unit) (fun ζ=>.of [(4,.one (.d (.v (.bool (((((e.ints.length:Int) == (d.vars.length:Int)&&(e.arrs.length:Int) == (d.arrays.length:Int))&&e.ints.all (fun x0=>Iv.ok x0))&&e.arrs.all (fun x0=>Iv.ok x0)))))))] []) [⟨[3],some 18,[],[]⟩,⟨[18],some 19,[[3]],[]⟩,⟨[19],some 20,[],[]⟩,⟨[2],some 21,[],[]⟩,⟨[21],some 22,[[2]],[]⟩,⟨[22],some 23,[],[]⟩,⟨[20,23],some 24,[],[]⟩,⟨[24],some 25,[],[]⟩,⟨[25,3],some 26,[],[]⟩,⟨[25,26],some 27,[[3]],[]⟩,⟨[25,27],some 28,[],[]⟩,⟨[25,2],some 29,[],[]⟩,⟨[25,29],some 30,[[2]],[]⟩,⟨[25,30],some 31,[],[]⟩,⟨[25,28,31],some 32,[],[]⟩,⟨[25,32],some 33,[],[]⟩,⟨[33],some 34,[],[]⟩,⟨[34,3],some 35,[],[]⟩,⟨[34,35],some 36,[[3]],[]⟩,⟨[34,36],some 37,[],[]⟩,⟨[34,37],some 38,[],[]⟩,⟨[38],some 39,[],[]⟩,⟨[39,3],some 40,[],[]⟩,⟨[39,40],some 41,[[3]],[]⟩,⟨[39,41],some 42,[],[]⟩,⟨[39,42],some 43,[],[]⟩,⟨[43],some 4,[],[]⟩] (fun k11=>?_) ?_
  ·skip
   refine .fieldAddrP (.no Y) Y t46 Y Y t44 Y Y Y Y<|.load (.no Y) Y t44 Y Y (.ptr _ _ _ _ _ Y) Y Y Y Y<|.len (.no Y) Y (z:=(e.ints.length:Int)) t44 Y Y Y (.d _ _) (map_len _ _) Y<|.fieldAddrP (.no Y) Y t40 Y Y t22 Y Y Y Y<|.load (.no Y) Y t22 Y Y (.ptr _ _ _ _ _ Y) Y Y Y Y<|.len (.no Y) Y (z:=(d.vars.length:Int)) t22 Y Y Y (.d _ _) (map_len _ _) Y<|.bin (.no Y) Y Y Y Y Y Y<|.moveB (.no Y) Y Y Y Y fun b12 g3_7=>?_
   cases b12
   ·skip
    refine .off Y Y Y Y Y Y Y<|.off Y Y Y Y Y Y Y<|.off Y Y Y Y Y Y Y<|.off Y Y Y Y Y Y Y<|.off Y Y Y Y Y Y Y<|.off Y Y Y Y Y Y Y<|.off Y Y Y Y Y Y Y<|.pick (.no Y) Y Y Y Y Y<|.move (.no Y) Y Y Y Y ?_
    refine .off Y Y Y Y Y Y Y<|.off Y Y Y Y Y Y Y<|.off Y Y Y Y Y Y Y<|.pick (.no Y) Y Y Y Y Y<|.move (.no Y) Y Y Y Y<|.off Y Y Y Y Y Y Y<|.off Y Y Y Y Y Y Y<|.off Y Y Y Y Y Y Y<|.pick (.no Y) Y Y Y Y Y ?_
    refine .assign (.no Y) Y Y Y Y ?_
    exact .fin () (.of (.cons (svB (show (false)=(((((e.ints.length:Int) == (d.vars.length:Int)&&(e.arrs.length:Int) == (d.arrays.length:Int))&&e.ints.all (fun x0=>Iv.ok x0))&&e.arrs.all (fun x0=>Iv.ok x0))) by first | (simp only [g3_7,Bool.true_or,Bool.false_or,Bool.true_and,Bool.false_and,Bool.not_true,Bool.not_false]; done) | (simp [g3_7]; done) | (exfalso; simp_all; done))) .nil) .nil)
   ·skip
    refine .fieldAddrP (.on Y Y Y Y Y) Y t46 Y Y t44 Y Y Y Y<|.load (.on Y Y Y Y Y) Y t44 Y Y (.ptr _ _ _ _ _ Y) Y Y Y Y<|.len (.on Y Y Y Y Y) Y (z:=(e.arrs.length:Int)) t44 Y Y Y (.d _ _) (map_len _ _) Y<|.fieldAddrP (.on Y Y Y Y Y) Y t40 Y Y t38 Y Y Y Y<|.load (.on Y Y Y Y Y) Y t38 Y Y (.ptr _ _ _ _ _ Y) Y Y Y Y<|.len (.on Y Y Y Y Y) Y (z:=(d.arrays.length:Int)) t38 Y Y Y (.d _ _) (map_len _ _) Y<|.bin (.on Y Y Y Y Y) Y Y Y Y Y Y<|.pick (.no Y) Y Y Y Y Y<|.moveB (.no Y) Y Y Y Y fun b13 g3_16=>?_
    cases b13
    ·skip
     refine .off Y Y Y Y Y Y Y<|.off Y Y Y Y Y Y Y<|.off Y Y Y Y Y Y Y<|.pick (.no Y) Y Y Y Y Y<|.move (.no Y) Y Y Y Y<|.off Y Y Y Y Y Y Y<|.off Y Y Y Y Y Y Y<|.off Y Y Y Y Y Y Y<|.pick (.no Y) Y Y Y Y Y ?_
     refine .assign (.no Y) Y Y Y Y ?_
     exact .fin () (.of (.cons (svB (show (false)=(((((e.ints.length:Int) == (d.vars.length:Int)&&(e.arrs.length:Int) == (d.arrays.length:Int))&&e.ints.all (fun x0=>Iv.ok x0))&&e.arrs.all (fun x0=>Iv.ok x0))) by first | (simp only [g3_7,g3_16,Bool.true_or,Bool.false_or,Bool.true_and,Bool.false_and,Bool.not_true,Bool.not_false]; done) | (simp [g3_7,g3_16]; done) | (exfalso; simp_all; done))) .nil) .nil)
    ·skip
     refine .fieldAddrP (.on Y Y Y Y Y) Y t46 Y Y t44 Y Y Y Y<|.load (.on Y Y Y Y Y) Y t44 Y Y (.ptr _ _ _ _ _ Y) Y Y Y Y<|.call (.on Y Y Y Y Y) Y [] [] (c_areAllI e.ints 146 [] [] (fun x0=>Iv.ok x0) (fun x0=>c_IvOk x0)) Y Y Y Y Y (.dd (.dd .nil)) Y Y (fun h=>absurd Y h) (.own [37,0] .nil) (.nil) Y Y Y (by simp) Y Y Y<|.pick (.no Y) Y Y Y Y Y<|.moveB (.no Y) Y Y Y Y fun b14 g3_21=>?_
     cases b14
     ·skip
      refine .off Y Y Y Y Y Y Y<|.off Y Y Y Y Y Y Y<|.off Y Y Y Y Y Y Y<|.pick (.no Y) Y Y Y Y Y<|.assign (.no Y) Y Y Y Y ?_
      exact .fin () (.of (.cons (svB (show (false)=(((((e.ints.length:Int) == (d.vars.length:Int)&&(e.arrs.length:Int) == (d.arrays.length:Int))&&e.ints.all (fun x0=>Iv.ok x0))&&e.arrs.all (fun x0=>Iv.ok x0))) by first | (simp only [g3_7,g3_16,g3_21,Bool.true_or,Bool.false_or,Bool.true_and,Bool.false_and,Bool.not_true,Bool.not_false]; done) | (simp [g3_7,g3_16,g3_21]; done) | (exfalso; simp_all; done))) .nil) .nil)
     ·skip
      refine .fieldAddrP (.on Y Y Y Y Y) Y t46 Y Y t44 Y Y Y Y<|.load (.on Y Y Y Y Y) Y t44 Y Y (.ptr _ _ _ _ _ Y) Y Y Y Y<|.call (.on Y Y Y Y Y) Y [] [] (c_areAllI e.arrs 146 [] [] (fun x0=>Iv.ok x0) (fun x0=>c_IvOk x0)) Y Y Y Y Y (.dd (.dd .nil)) Y Y (fun h=>absurd Y h) (.own [42,0] .nil) (.nil) Y Y Y (by simp) Y Y Y<|.pick (.no Y) Y Y Y Y Y<|.assign (.no Y) Y Y Y Y ?_
      exact .fin () (.of (.cons (svB (show (e.arrs.all (fun x0=>Iv.ok x0))=(((((e.ints.length:Int) == (d.vars.length:Int)&&(e.arrs.length:Int) == (d.arrays.length:Int))&&e.ints.all (fun x0=>Iv.ok x0))&&e.arrs.all (fun x0=>Iv.ok x0))) by first | (simp only [g3_7,g3_16,g3_21,Bool.true_or,Bool.false_or,Bool.true_and,Bool.false_and,Bool.not_true,Bool.not_false]; done) | (simp [g3_7,g3_16,g3_21]; done) | (exfalso; simp_all; done))) .nil) .nil)
  intro _
  refine .ret ?_
  exact fin0 (.inr Y) (.one (svB (show (((((e.ints.length:Int) == (d.vars.length:Int)&&(e.arrs.length:Int) == (d.arrays.length:Int))&&e.ints.all (fun x0=>Iv.ok x0))&&e.arrs.all (fun x0=>Iv.ok x0)))=(Env.okIn d e) by simp [Env.okIn,c0,Bool.and_assoc])) .nil) (.dd .nil) Y
end Go.Proofs

namespace Go.Proofs
open Go Go.Proofs Go.Ev

theorem c_areIvs (a:Iv) (b:Iv):Trip Tryz.prog 151 [(true,2),(true,2)] (Iv.c a++Iv.c b) [(false,1)] [.v (.bool (Iv.ok a&&Iv.ok b))] []:=by
 refine Trip.of Tryz.func151 (by decide) (c:=_) Y Y (Nat.le_of_ble_eq_true Y) Y (AftOk.nil _)<|.seq<|.rs fun k1=>.g (fun _ τ=>⟨_,.box (.no Y) Y Y Y Y Y τ⟩)<|.g (fun _ τ=>⟨_,.box (.no Y) Y Y Y Y Y τ⟩)<|.as Y<|.z<|.seq ?_
 refine .reg (X:=Unit) (fun ζ=>.of [(4,.one (.d (.v (.bool ((Iv.ok a&&Iv.ok b))))))] []) [⟨[2],some 5,[[2]],[]⟩,⟨[5],some 6,[],[]⟩,⟨[6],some 7,[],[]⟩,⟨[7,3],some 8,[[3]],[]⟩,⟨[7,8],some 9,[],[]⟩,⟨[7,9],some 10,[],[]⟩,⟨[10],some 4,[],[]⟩] (fun k2=>?_) ?_
 ·skip
  refine .load (.no Y) Y t34 Y Y (.ptr _ _ _ _ _ Y) Y Y Y Y<|.call (.no Y) Y [] [] (c_IvOk a) Y Y Y Y Y (.dd (.dd .nil)) Y Y (fun h=>absurd Y h) (.own [6,0] .nil) (.nil) Y Y Y (by simp) Y Y Y<|.moveB (.no Y) Y Y Y Y fun b3 g1_2=>?_
  cases b3
  ·skip
   refine .off Y Y Y Y Y Y Y<|.off Y Y Y Y Y Y Y<|.pick (.no Y) Y Y Y Y Y<|.assign (.no Y) Y Y Y Y ?_
   exact .fin () (.of (.cons (svB (show (false)=((Iv.ok a&&Iv.ok b)) by first | (simp only [g1_2,Bool.true_or,Bool.false_or,Bool.true_and,Bool.false_and,Bool.not_true,Bool.not_false]; done) | (simp [g1_2]; done) | (exfalso; simp_all; done))) .nil) .nil)
  ·skip
   refine .load (.on Y Y Y Y Y) Y t34 Y Y (.ptr _ _ _ _ _ Y) Y Y Y Y<|.call (.on Y Y Y Y Y) Y [] [] (c_IvOk b) Y Y Y Y Y (.dd (.dd .nil)) Y Y (fun h=>absurd Y h) (.own [9,0] .nil) (.nil) Y Y Y (by simp) Y Y Y<|.pick (.no Y) Y Y Y Y Y<|.assign (.no Y) Y Y Y Y ?_
   exact .fin () (.of (.cons (svB (show (Iv.ok b)=((Iv.ok a&&Iv.ok b)) by first | (simp only [g1_2,Bool.true_or,Bool.false_or,Bool.true_and,Bool.false_and,Bool.not_true,Bool.not_false]; done) | (simp [g1_2]; done) | (exfalso; simp_all; done))) .nil) .nil)
 intro _
 refine .ret ?_
 exact fin0 (.inr Y) (.one (svB (show ((Iv.ok a&&Iv.ok b))=(Iv.ok a&&Iv.ok b) by rfl)) .nil) (.dd .nil) Y
end Go.Proofs

namespace Go.Proofs
open Go Go.Proofs Go.Ev

theorem c_EnvOk (d:Decl) (e:Env) (hs:∀ x∈Decl.names d,x.size≤9223372036854775807) (hb:d.vars.length≤1048576∧d.flags.length≤1048576∧d.arrays.length≤1048576):Trip Tryz.prog 71 [(true,3),(true,3)] (Decl.c40 d++Env.c46 e) [(false,1)] [.v (.bool (Decl.ok d&&Env.okIn d e))] []:=by
 refine Trip.of Tryz.func71 (by decide) (c:=_) Y Y (Nat.le_of_ble_eq_true Y) Y (AftOk.nil _)<|.sla (t:=0) 0 Y Y fun hs1l=>.sla (t:=0) 1 Y Y fun hs2l=>.sla (t:=0) 2 Y Y fun hs3l=>.sla (t:=1) 1 Y Y fun hs4l=>.sla (t:=1) 2 Y Y fun hs5l=>.seq<|.rs fun k6=>.g (fun _ τ=>⟨_,.box (.no Y) Y Y Y Y Y τ⟩) ?_
 refine .g (fun _ τ=>⟨_,.box (.no Y) Y Y Y Y Y τ⟩)<|.as Y<|.z<|.seq ?_
 refine .reg (X:=Unit) (fun ζ=>.of [(4,.one (.d (.v (.bool ((Decl.ok d&&Env.okIn d e))))))] []) [⟨[2],some 5,[[2]],[]⟩,⟨[5],some 6,[],[]⟩,⟨[6],some 7,[],[]⟩,⟨[7,2],some 8,[[2]],[]⟩,⟨[7,3],some 9,[[3]],[]⟩,⟨[7,8,9],some 10,[],[]⟩,⟨[7,10],some 11,[],[]⟩,⟨[11],some 4,[],[]⟩] (fun k7=>?_) ?_
 ·skip
  refine .load (.no Y) Y t40 Y Y (.ptr _ _ _ _ _ Y) Y Y Y Y<|.call (.no Y) Y [] [] (c_isRight d (by assumption) (by assumption)) Y Y Y Y Y (.dd (.dd (.dd .nil))) Y Y (fun h=>absurd Y h) (.own [6,0] .nil) (.nil) Y Y Y (by simp) Y Y Y<|.moveB (.no Y) Y Y Y Y fun b8 g1_2=>?_
  cases b8
  ·skip
   refine .off Y Y Y Y Y Y Y<|.off Y Y Y Y Y Y Y<|.off Y Y Y Y Y Y Y<|.pick (.no Y) Y Y Y Y Y<|.assign (.no Y) Y Y Y Y ?_
   exact .fin () (.of (.cons (svB (show (false)=((Decl.ok d&&Env.okIn d e)) by first | (simp only [g1_2,Bool.true_or,Bool.false_or,Bool.true_and,Bool.false_and,Bool.not_true,Bool.not_false]; done) | (simp [g1_2]; done) | (exfalso; simp_all; done))) .nil) .nil)
  ·skip
   refine .load (.on Y Y Y Y Y) Y t40 Y Y (.ptr _ _ _ _ _ Y) Y Y Y Y<|.load (.on Y Y Y Y Y) Y t46 Y Y (.ptr _ _ _ _ _ Y) Y Y Y Y<|.call (.on Y Y Y Y Y) Y [] [] (c_isEnv d e) Y Y Y Y Y (.dd (.dd (.dd (.dd (.dd (.dd .nil)))))) Y Y (fun h=>absurd Y h) (.own [10,0] .nil) (.nil) Y Y Y (by simp) Y Y Y<|.pick (.no Y) Y Y Y Y Y<|.assign (.no Y) Y Y Y Y ?_
   exact .fin () (.of (.cons (svB (show (Env.okIn d e)=((Decl.ok d&&Env.okIn d e)) by first | (simp only [g1_2,Bool.true_or,Bool.false_or,Bool.true_and,Bool.false_and,Bool.not_true,Bool.not_false]; done) | (simp [g1_2]; done) | (exfalso; simp_all; done))) .nil) .nil)
 intro _
 refine .ret ?_
 exact fin0 (.inr Y) (.one (svB (show ((Decl.ok d&&Env.okIn d e))=(Decl.ok d&&Env.okIn d e) by rfl)) .nil) (.dd .nil) Y
theorem c_sizeS (l:List ByteArray):Trip Tryz.prog 107 [(false,1)] ([.sl false 9 1 (List.map strc (l))]) [(false,1)] [.v (.int .i64 ((l.length:Int)))] []:=by
 refine Trip.of Tryz.func107 (by decide) (c:=_) Y Y (Nat.le_of_ble_eq_true Y) Y (AftOk.nil _)<|.sl (t:=0) Y fun hs1l=>.seq<|.rs fun k2=>.as Y<|.z<|.seq<|.rs fun k3=>.mv Y ?_
 refine .g (fun _ τ=>⟨_,.len (.no Y) Y (z:=(l.length:Int)) t22 Y Y Y (.d _ _) (map_len _ _) Y τ⟩)<|.as Y<|.z<|.ret ?_
 exact fin0 (.inr Y) (.one Y .nil) (.dd .nil) Y
end Go.Proofs

namespace Go.Proofs
open Go Go.Proofs Go.Ev

theorem c_sIvMeet (a:Iv) (b:Iv):Trip Tryz.prog 102 [(true,2),(true,2)] (Iv.c a++Iv.c b) [(true,2),(false,1)] [.v (.int .i64 ((Iv.meetOk a b).lo)),.v (.int .i64 ((Iv.meetOk a b).hi)),.v (.bool (Iv.meets a b))] []:=by
 refine Trip.of Tryz.func102 (by decide) (c:=_) Y Y (Nat.le_of_ble_eq_true Y) Y (AftOk.nil _)<|.seq<|.rs fun k1=>.g (fun _ τ=>⟨_,.box (.no Y) Y Y Y Y Y τ⟩)<|.g (fun _ τ=>⟨_,.box (.no Y) Y Y Y Y Y τ⟩)<|.g (fun _ τ=>⟨_,.alloc (.no Y) Y z34 Y Y Y τ⟩)<|.as Y<|.z<|.seq ?_
 refine .rs fun k2=>.fp t34 t2 Y<|.ld t2 Y (.ptr _ _ _ _ _ Y) Y<|.fp t34 t2 Y<|.ld t2 Y (.ptr _ _ _ _ _ Y) Y<|.g (fun _ τ=>⟨_,.max (.no Y) Y Y Y Y (max_of _ _) Y τ⟩)<|.fp t34 t2 Y<|.ld t2 Y (.ptr _ _ _ _ _ Y) Y<|.fp t34 t2 Y ?_
 refine .ld t2 Y (.ptr _ _ _ _ _ Y) Y<|.g (fun _ τ=>⟨_,.min (.no Y) Y Y Y Y (min_of _ _) Y τ⟩)<|.g (fun _ τ=>⟨_,.build (.no Y) Y z34 Y p34 Y Y Y Y τ⟩)<|.g (fun _ τ=>⟨_,.alloc (.no Y) Y z34 Y Y Y τ⟩)<|.g (fun _ τ=>⟨_,.store (.no Y) Y t34 Y Y Y Y Y Y Y Y Y τ⟩)<|.z<|.seq<|.seq ?_
 refine .reg (X:=Unit) (fun ζ=>.of [(4,.one (.ptr [4] (k1+1+1) 0)),(6,.one (.ptr [6] (k2+1+1+1+1+1+1+1+1+1+1+1) 0)),(30,.one (.d (.v (.bool (((!(Iv.ok a)||!(Iv.ok b))||!(Iv.ok (Iv.mk (max a.lo b.lo) (min a.hi b.hi)))))))))] [([4],(k1+1+1,k1+1+1,.box [.d (.v (.int .i64 (0))),.d (.v (.int .i64 (0)))])),([6],(k2+1+1+1+1+1+1+1+1+1+1+1,k2+1+1+1+1+1+1+1+1+1+1+1+1,.box [.d (.v (.int .i64 (max a.lo b.lo))),.d (.v (.int .i64 (min a.hi b.hi)))]))]) [⟨[2],some 18,[[2]],[]⟩,⟨[18],some 19,[],[]⟩,⟨[19],some 20,[],[]⟩,⟨[20],some 21,[],[]⟩,⟨[21,3],some 22,[[3]],[]⟩,⟨[21,22],some 23,[],[]⟩,⟨[21,23],some 24,[],[]⟩,⟨[21,24],some 25,[],[]⟩,⟨[25],some 26,[],[]⟩,⟨[26,6],some 27,[[6]],[]⟩,⟨[26,27],some 28,[],[]⟩,⟨[26,28],some 29,[],[]⟩,⟨[26,29],some 30,[],[]⟩] (fun k3=>?_) ?_
 ·skip
  refine .load (.no Y) Y t34 Y Y (.ptr _ _ _ _ _ Y) Y Y Y Y<|.call (.no Y) Y [] [] (c_sIvOk a) Y Y Y Y Y (.dd (.dd .nil)) Y Y (fun h=>absurd Y h) (.own [19,0] .nil) (.nil) Y Y Y (by simp) Y Y Y<|.un (.no Y) Y Y Y Y Y<|.moveB (.no Y) Y Y Y Y fun b4 g2_3=>?_
  cases b4
  ·skip
   refine .load (.on Y Y Y Y Y) Y t34 Y Y (.ptr _ _ _ _ _ Y) Y Y Y Y<|.call (.on Y Y Y Y Y) Y [] [] (c_sIvOk b) Y Y Y Y Y (.dd (.dd .nil)) Y Y (fun h=>absurd Y h) (.own [23,0] .nil) (.nil) Y Y Y (by simp) Y Y Y<|.un (.on Y Y Y Y Y) Y Y Y Y Y<|.pick (.no Y) Y Y Y Y Y<|.moveB (.no Y) Y Y Y Y fun b5 g2_8=>?_
   cases b5
   ·skip
    refine .load (.on Y Y Y Y Y) Y t34 Y Y (.ptr _ _ _ _ _ Y) Y Y Y Y<|.call (.on Y Y Y Y Y) Y [] [] (c_sIvOk (Iv.mk (max a.lo b.lo) (min a.hi b.hi))) Y Y Y Y Y (.dd (.dd .nil)) Y Y (fun h=>absurd Y h) (.own [28,0] .nil) (.nil) Y Y Y (by simp) Y Y Y<|.un (.on Y Y Y Y Y) Y Y Y Y Y<|.pick (.no Y) Y Y Y Y Y ?_
    exact .fin () (.of (.cons Y (.cons Y (.cons (svB (show (!(Iv.ok (Iv.mk (max a.lo b.lo) (min a.hi b.hi))))=(((!(Iv.ok a)||!(Iv.ok b))||!(Iv.ok (Iv.mk (max a.lo b.lo) (min a.hi b.hi))))) by first | (simp only [g2_3,g2_8,Bool.true_or,Bool.false_or,Bool.true_and,Bool.false_and,Bool.not_true,Bool.not_false]; done) | (simp [g2_3,g2_8]; done) | (exfalso; simp_all; done))) .nil))) (.r Y))
   ·skip
    refine .off Y Y Y Y Y Y Y<|.off Y Y Y Y Y Y Y<|.off Y Y Y Y Y Y Y<|.pick (.no Y) Y Y Y Y Y ?_
    exact .fin () (.of (.cons Y (.cons Y (.cons (svB (show (true)=(((!(Iv.ok a)||!(Iv.ok b))||!(Iv.ok (Iv.mk (max a.lo b.lo) (min a.hi b.hi))))) by first | (simp only [g2_3,g2_8,Bool.true_or,Bool.false_or,Bool.true_and,Bool.false_and,Bool.not_true,Bool.not_false]; done) | (simp [g2_3,g2_8]; done) | (exfalso; simp_all; done))) .nil))) (.r Y))
  ·skip
   refine .off Y Y Y Y Y Y Y<|.off Y Y Y Y Y Y Y<|.off Y Y Y Y Y Y Y<|.pick (.no Y) Y Y Y Y Y<|.move (.no Y) Y Y Y Y<|.off Y Y Y Y Y Y Y<|.off Y Y Y Y Y Y Y<|.off Y Y Y Y Y Y Y<|.pick (.no Y) Y Y Y Y Y ?_
   exact .fin () (.of (.cons Y (.cons Y (.cons (svB (show (true)=(((!(Iv.ok a)||!(Iv.ok b))||!(Iv.ok (Iv.mk (max a.lo b.lo) (min a.hi b.hi))))) by first | (simp only [g2_3,Bool.true_or,Bool.false_or,Bool.true_and,Bool.false_and,Bool.not_true,Bool.not_false]; done) | (simp [g2_3]; done) | (exfalso; simp_all; done))) .nil))) (.r Y))
 intro _
 refine .cond (t:=((!(Iv.ok a)||!(Iv.ok b))||!(Iv.ok (Iv.mk (max a.lo b.lo) (min a.hi b.hi))))) Y (fun c0=>?_) (fun c0=>?_)
 ·have c0:=(oT (oT (nT id) (nT id)) (nT id)) c0
  refine .seq<|.rs fun k6=>.g (fun _ τ=>⟨_,.build (.no Y) Y z34 Y p34 Y Y Y Y τ⟩)<|.g (fun _ τ=>⟨_,.store (.no Y) Y t34 Y Y Y Y Y Y Y Y Y τ⟩)<|.as Y<|.z<|.ret ?_
  have e7:(0)=((Iv.meetOk a b).lo):=by first | (rw [Iv.meets_no c0]) | (rw [Iv.meets_yes c0]) | (unfold Iv.meetOk; rw [Iv.meets_no c0]; rfl) | (unfold Iv.meetOk; rw [Iv.meets_yes c0]; rfl)
  have e8:(0)=((Iv.meetOk a b).hi):=by first | (rw [Iv.meets_no c0]) | (rw [Iv.meets_yes c0]) | (unfold Iv.meetOk; rw [Iv.meets_no c0]; rfl) | (unfold Iv.meetOk; rw [Iv.meets_yes c0]; rfl)
  have hc9:=eq2 (fun z1 z2=>some (k1+1+1,k6+1,O.box [.d (.v (.int .i64 (z1))),.d (.v (.int .i64 (z2)))])) e7 e8
  exact fin0 (.inr Y) (.cell (cells:=[.d (.v (.int .i64 ((Iv.meetOk a b).lo))),.d (.v (.int .i64 ((Iv.meetOk a b).hi)))]) Y hc9 t34 Y Y (.one (svB (show (false)=(Iv.meets a b) by first | (rw [Iv.meets_no c0]) | (rw [Iv.meets_yes c0]) | (unfold Iv.meetOk; rw [Iv.meets_no c0]; rfl) | (unfold Iv.meetOk; rw [Iv.meets_yes c0]; rfl))) .nil)) (.dd (.dd (.dd .nil))) Y
 ·have c0:=(oF (oF (nF id) (nF id)) (nF id)) c0
  refine .skip<|.seq<|.rs fun k11=>.lda t34 Y (.ptr _ _ _ _ _ Y) Y<|.g (fun _ τ=>⟨_,.store (.no Y) Y t34 Y Y Y Y Y Y Y Y Y τ⟩)<|.as Y<|.z<|.ret ?_
  have e12:(max a.lo b.lo)=((Iv.meetOk a b).lo):=by first | (rw [Iv.meets_no c0]) | (rw [Iv.meets_yes c0]) | (unfold Iv.meetOk; rw [Iv.meets_no c0]; rfl) | (unfold Iv.meetOk; rw [Iv.meets_yes c0]; rfl)
  have e13:(min a.hi b.hi)=((Iv.meetOk a b).hi):=by first | (rw [Iv.meets_no c0]) | (rw [Iv.meets_yes c0]) | (unfold Iv.meetOk; rw [Iv.meets_no c0]; rfl) | (unfold Iv.meetOk; rw [Iv.meets_yes c0]; rfl)
  have hc14:=eq2 (fun z1 z2=>some (k1+1+1,k11+1,O.box [.d (.v (.int .i64 (z1))),.d (.v (.int .i64 (z2)))])) e12 e13
  exact fin0 (.inr Y) (.cell (cells:=[.d (.v (.int .i64 ((Iv.meetOk a b).lo))),.d (.v (.int .i64 ((Iv.meetOk a b).hi)))]) Y hc14 t34 Y Y (.one (svB (show (true)=(Iv.meets a b) by first | (rw [Iv.meets_no c0]) | (rw [Iv.meets_yes c0]) | (unfold Iv.meetOk; rw [Iv.meets_no c0]; rfl) | (unfold Iv.meetOk; rw [Iv.meets_yes c0]; rfl))) .nil)) (.dd (.dd (.dd .nil))) Y
theorem c_IvMeet (a:Iv) (b:Iv):Trip Tryz.prog 148 [(true,2),(true,2)] (Iv.c a++Iv.c b) [(true,2),(false,1)] [.v (.int .i64 ((Iv.meetOk a b).lo)),.v (.int .i64 ((Iv.meetOk a b).hi)),.v (.bool (Iv.meets a b))] []:=by
 refine Trip.of Tryz.func148 (by decide) (c:=_) Y Y (Nat.le_of_ble_eq_true Y) Y (AftOk.nil _)<|.seq<|.rs fun k1=>.g (fun _ τ=>⟨_,.box (.no Y) Y Y Y Y Y τ⟩)<|.g (fun _ τ=>⟨_,.box (.no Y) Y Y Y Y Y τ⟩)<|.g (fun _ τ=>⟨_,.alloc (.no Y) Y z34 Y Y Y τ⟩)<|.as Y<|.z<|.seq ?_
 refine .rs fun k2=>.fp t34 t2 Y<|.ld t2 Y (.ptr _ _ _ _ _ Y) Y<|.fp t34 t2 Y<|.ld t2 Y (.ptr _ _ _ _ _ Y) Y<|.g (fun _ τ=>⟨_,.max (.no Y) Y Y Y Y (max_of _ _) Y τ⟩)<|.fp t34 t2 Y<|.ld t2 Y (.ptr _ _ _ _ _ Y) Y<|.fp t34 t2 Y ?_
 refine .ld t2 Y (.ptr _ _ _ _ _ Y) Y<|.g (fun _ τ=>⟨_,.min (.no Y) Y Y Y Y (min_of _ _) Y τ⟩)<|.g (fun _ τ=>⟨_,.build (.no Y) Y z34 Y p34 Y Y Y Y τ⟩)<|.g (fun _ τ=>⟨_,.alloc (.no Y) Y z34 Y Y Y τ⟩)<|.g (fun _ τ=>⟨_,.store (.no Y) Y t34 Y Y Y Y Y Y Y Y Y τ⟩)<|.z<|.seq<|.seq ?_
 refine .reg (X:=Unit) (fun ζ=>.of [(4,.one (.ptr [4] (k1+1+1) 0)),(6,.one (.ptr [6] (k2+1+1+1+1+1+1+1+1+1+1+1) 0)),(26,.one (.d (.v (.bool ((!(Iv.ok a&&Iv.ok b)||!(Iv.ok (Iv.mk (max a.lo b.lo) (min a.hi b.hi)))))))))] [([4],(k1+1+1,k1+1+1,.box [.d (.v (.int .i64 (0))),.d (.v (.int .i64 (0)))])),([6],(k2+1+1+1+1+1+1+1+1+1+1+1,k2+1+1+1+1+1+1+1+1+1+1+1+1,.box [.d (.v (.int .i64 (max a.lo b.lo))),.d (.v (.int .i64 (min a.hi b.hi)))]))]) [⟨[2],some 18,[[2]],[]⟩,⟨[3],some 19,[[3]],[]⟩,⟨[18,19],some 20,[],[]⟩,⟨[20],some 21,[],[]⟩,⟨[21],some 22,[],[]⟩,⟨[22,6],some 23,[[6]],[]⟩,⟨[22,23],some 24,[],[]⟩,⟨[22,24],some 25,[],[]⟩,⟨[22,25],some 26,[],[]⟩] (fun k3=>?_) ?_
 ·skip
  refine .load (.no Y) Y t34 Y Y (.ptr _ _ _ _ _ Y) Y Y Y Y<|.load (.no Y) Y t34 Y Y (.ptr _ _ _ _ _ Y) Y Y Y Y<|.call (.no Y) Y [] [] (c_areIvs a b) Y Y Y Y Y (.dd (.dd (.dd (.dd .nil)))) Y Y (fun h=>absurd Y h) (.own [20,0] .nil) (.nil) Y Y Y (by simp) Y Y Y<|.un (.no Y) Y Y Y Y Y<|.moveB (.no Y) Y Y Y Y fun b4 g2_4=>?_
  cases b4
  ·skip
   refine .load (.on Y Y Y Y Y) Y t34 Y Y (.ptr _ _ _ _ _ Y) Y Y Y Y<|.call (.on Y Y Y Y Y) Y [] [] (c_IvOk (Iv.mk (max a.lo b.lo) (min a.hi b.hi))) Y Y Y Y Y (.dd (.dd .nil)) Y Y (fun h=>absurd Y h) (.own [24,0] .nil) (.nil) Y Y Y (by simp) Y Y Y<|.un (.on Y Y Y Y Y) Y Y Y Y Y<|.pick (.no Y) Y Y Y Y Y ?_
   exact .fin () (.of (.cons Y (.cons Y (.cons (svB (show (!(Iv.ok (Iv.mk (max a.lo b.lo) (min a.hi b.hi))))=((!(Iv.ok a&&Iv.ok b)||!(Iv.ok (Iv.mk (max a.lo b.lo) (min a.hi b.hi))))) by first | (simp only [g2_4,Bool.true_or,Bool.false_or,Bool.true_and,Bool.false_and,Bool.not_true,Bool.not_false]; done) | (simp [g2_4]; done) | (exfalso; simp_all; done))) .nil))) (.r Y))
  ·skip
   refine .off Y Y Y Y Y Y Y<|.off Y Y Y Y Y Y Y<|.off Y Y Y Y Y Y Y<|.pick (.no Y) Y Y Y Y Y ?_
   exact .fin () (.of (.cons Y (.cons Y (.cons (svB (show (true)=((!(Iv.ok a&&Iv.ok b)||!(Iv.ok (Iv.mk (max a.lo b.lo) (min a.hi b.hi))))) by first | (simp only [g2_4,Bool.true_or,Bool.false_or,Bool.true_and,Bool.false_and,Bool.not_true,Bool.not_false]; done) | (simp [g2_4]; done) | (exfalso; simp_all; done))) .nil))) (.r Y))
 intro _
 refine .cond (t:=(!(Iv.ok a&&Iv.ok b)||!(Iv.ok (Iv.mk (max a.lo b.lo) (min a.hi b.hi))))) Y (fun c0=>?_) (fun c0=>?_)
 ·have c0:=(oT (nT (aF id id)) (nT id)) c0
  refine .seq<|.rs fun k5=>.g (fun _ τ=>⟨_,.build (.no Y) Y z34 Y p34 Y Y Y Y τ⟩)<|.g (fun _ τ=>⟨_,.store (.no Y) Y t34 Y Y Y Y Y Y Y Y Y τ⟩)<|.as Y<|.z<|.ret ?_
  have e6:(0)=((Iv.meetOk a b).lo):=by first | (rw [Iv.meets_no c0]) | (rw [Iv.meets_yes c0]) | (unfold Iv.meetOk; rw [Iv.meets_no c0]; rfl) | (unfold Iv.meetOk; rw [Iv.meets_yes c0]; rfl)
  have e7:(0)=((Iv.meetOk a b).hi):=by first | (rw [Iv.meets_no c0]) | (rw [Iv.meets_yes c0]) | (unfold Iv.meetOk; rw [Iv.meets_no c0]; rfl) | (unfold Iv.meetOk; rw [Iv.meets_yes c0]; rfl)
  have hc8:=eq2 (fun z1 z2=>some (k1+1+1,k5+1,O.box [.d (.v (.int .i64 (z1))),.d (.v (.int .i64 (z2)))])) e6 e7
  exact fin0 (.inr Y) (.cell (cells:=[.d (.v (.int .i64 ((Iv.meetOk a b).lo))),.d (.v (.int .i64 ((Iv.meetOk a b).hi)))]) Y hc8 t34 Y Y (.one (svB (show (false)=(Iv.meets a b) by first | (rw [Iv.meets_no c0]) | (rw [Iv.meets_yes c0]) | (unfold Iv.meetOk; rw [Iv.meets_no c0]; rfl) | (unfold Iv.meetOk; rw [Iv.meets_yes c0]; rfl))) .nil)) (.dd (.dd (.dd .nil))) Y
 ·have c0:=(oF (nF (aT id id)) (nF id)) c0
  refine .skip<|.seq<|.rs fun k10=>.lda t34 Y (.ptr _ _ _ _ _ Y) Y<|.g (fun _ τ=>⟨_,.store (.no Y) Y t34 Y Y Y Y Y Y Y Y Y τ⟩)<|.as Y<|.z<|.ret ?_
  have e11:(max a.lo b.lo)=((Iv.meetOk a b).lo):=by first | (rw [Iv.meets_no c0]) | (rw [Iv.meets_yes c0]) | (unfold Iv.meetOk; rw [Iv.meets_no c0]; rfl) | (unfold Iv.meetOk; rw [Iv.meets_yes c0]; rfl)
  have e12:(min a.hi b.hi)=((Iv.meetOk a b).hi):=by first | (rw [Iv.meets_no c0]) | (rw [Iv.meets_yes c0]) | (unfold Iv.meetOk; rw [Iv.meets_no c0]; rfl) | (unfold Iv.meetOk; rw [Iv.meets_yes c0]; rfl)
  have hc13:=eq2 (fun z1 z2=>some (k1+1+1,k10+1,O.box [.d (.v (.int .i64 (z1))),.d (.v (.int .i64 (z2)))])) e11 e12
  exact fin0 (.inr Y) (.cell (cells:=[.d (.v (.int .i64 ((Iv.meetOk a b).lo))),.d (.v (.int .i64 ((Iv.meetOk a b).hi)))]) Y hc13 t34 Y Y (.one (svB (show (true)=(Iv.meets a b) by first | (rw [Iv.meets_no c0]) | (rw [Iv.meets_yes c0]) | (unfold Iv.meetOk; rw [Iv.meets_no c0]; rfl) | (unfold Iv.meetOk; rw [Iv.meets_yes c0]; rfl))) .nil)) (.dd (.dd (.dd .nil))) Y
theorem c_sIvLeq (a:Iv) (b:Iv):Trip Tryz.prog 103 [(true,2),(true,2)] (Iv.c a++Iv.c b) [(false,1)] [.v (.bool (Iv.leq a b))] []:=by
 refine Trip.of Tryz.func103 (by decide) (c:=_) Y Y (Nat.le_of_ble_eq_true Y) Y (AftOk.nil _)<|.seq<|.rs fun k1=>.g (fun _ τ=>⟨_,.box (.no Y) Y Y Y Y Y τ⟩)<|.g (fun _ τ=>⟨_,.box (.no Y) Y Y Y Y Y τ⟩)<|.as Y<|.z<|.seq ?_
 refine .reg (X:=Unit) (fun ζ=>.of [(4,.one (.d (.v (.bool ((((Iv.ok a&&Iv.ok b)&&decide (b.lo≤a.lo))&&decide (a.hi≤b.hi)))))))] []) [⟨[2],some 5,[[2]],[]⟩,⟨[5],some 6,[],[]⟩,⟨[6],some 7,[],[]⟩,⟨[7,3],some 8,[[3]],[]⟩,⟨[7,8],some 9,[],[]⟩,⟨[7,9],some 10,[],[]⟩,⟨[10],some 11,[],[]⟩,⟨[11,3],some 12,[],[]⟩,⟨[11,12],some 13,[[3]],[]⟩,⟨[11,2],some 14,[],[]⟩,⟨[11,14],some 15,[[2]],[]⟩,⟨[11,13,15],some 16,[],[]⟩,⟨[11,16],some 17,[],[]⟩,⟨[17],some 18,[],[]⟩,⟨[18,2],some 19,[],[]⟩,⟨[18,19],some 20,[[2]],[]⟩,⟨[18,3],some 21,[],[]⟩,⟨[18,21],some 22,[[3]],[]⟩,⟨[18,20,22],some 23,[],[]⟩,⟨[18,23],some 24,[],[]⟩,⟨[24],some 4,[],[]⟩] (fun k2=>?_) ?_
 ·skip
  refine .load (.no Y) Y t34 Y Y (.ptr _ _ _ _ _ Y) Y Y Y Y<|.call (.no Y) Y [] [] (c_sIvOk a) Y Y Y Y Y (.dd (.dd .nil)) Y Y (fun h=>absurd Y h) (.own [6,0] .nil) (.nil) Y Y Y (by simp) Y Y Y<|.moveB (.no Y) Y Y Y Y fun b3 g1_2=>?_
  cases b3
  ·skip
   refine .off Y Y Y Y Y Y Y<|.off Y Y Y Y Y Y Y<|.pick (.no Y) Y Y Y Y Y<|.move (.no Y) Y Y Y Y<|.off Y Y Y Y Y Y Y<|.off Y Y Y Y Y Y Y<|.off Y Y Y Y Y Y Y<|.off Y Y Y Y Y Y Y<|.off Y Y Y Y Y Y Y ?_
   refine .pick (.no Y) Y Y Y Y Y<|.move (.no Y) Y Y Y Y<|.off Y Y Y Y Y Y Y<|.off Y Y Y Y Y Y Y<|.off Y Y Y Y Y Y Y<|.off Y Y Y Y Y Y Y<|.off Y Y Y Y Y Y Y<|.pick (.no Y) Y Y Y Y Y<|.assign (.no Y) Y Y Y Y ?_
   exact .fin () (.of (.cons (svB (show (false)=((((Iv.ok a&&Iv.ok b)&&decide (b.lo≤a.lo))&&decide (a.hi≤b.hi))) by first | (simp only [g1_2,Bool.true_or,Bool.false_or,Bool.true_and,Bool.false_and,Bool.not_true,Bool.not_false]; done) | (simp [g1_2]; done) | (exfalso; simp_all; done))) .nil) .nil)
  ·skip
   refine .load (.on Y Y Y Y Y) Y t34 Y Y (.ptr _ _ _ _ _ Y) Y Y Y Y<|.call (.on Y Y Y Y Y) Y [] [] (c_sIvOk b) Y Y Y Y Y (.dd (.dd .nil)) Y Y (fun h=>absurd Y h) (.own [9,0] .nil) (.nil) Y Y Y (by simp) Y Y Y<|.pick (.no Y) Y Y Y Y Y<|.moveB (.no Y) Y Y Y Y fun b4 g1_6=>?_
   cases b4
   ·skip
    refine .off Y Y Y Y Y Y Y<|.off Y Y Y Y Y Y Y<|.off Y Y Y Y Y Y Y<|.off Y Y Y Y Y Y Y<|.off Y Y Y Y Y Y Y<|.pick (.no Y) Y Y Y Y Y<|.move (.no Y) Y Y Y Y<|.off Y Y Y Y Y Y Y<|.off Y Y Y Y Y Y Y ?_
    refine .off Y Y Y Y Y Y Y<|.off Y Y Y Y Y Y Y<|.off Y Y Y Y Y Y Y<|.pick (.no Y) Y Y Y Y Y<|.assign (.no Y) Y Y Y Y ?_
    exact .fin () (.of (.cons (svB (show (false)=((((Iv.ok a&&Iv.ok b)&&decide (b.lo≤a.lo))&&decide (a.hi≤b.hi))) by first | (simp only [g1_2,g1_6,Bool.true_or,Bool.false_or,Bool.true_and,Bool.false_and,Bool.not_true,Bool.not_false]; done) | (simp [g1_2,g1_6]; done) | (exfalso; simp_all; done))) .nil) .nil)
   ·skip
    refine .fieldAddrP (.on Y Y Y Y Y) Y t34 Y Y t2 Y Y Y Y<|.load (.on Y Y Y Y Y) Y t2 Y Y (.ptr _ _ _ _ _ Y) Y Y Y Y<|.fieldAddrP (.on Y Y Y Y Y) Y t34 Y Y t2 Y Y Y Y<|.load (.on Y Y Y Y Y) Y t2 Y Y (.ptr _ _ _ _ _ Y) Y Y Y Y<|.bin (.on Y Y Y Y Y) Y Y Y Y Y Y<|.pick (.no Y) Y Y Y Y Y<|.moveB (.no Y) Y Y Y Y fun b5 g1_13=>?_
    cases b5
    ·skip
     refine .off Y Y Y Y Y Y Y<|.off Y Y Y Y Y Y Y<|.off Y Y Y Y Y Y Y<|.off Y Y Y Y Y Y Y<|.off Y Y Y Y Y Y Y<|.pick (.no Y) Y Y Y Y Y<|.assign (.no Y) Y Y Y Y ?_
     exact .fin () (.of (.cons (svB (show (false)=((((Iv.ok a&&Iv.ok b)&&decide (b.lo≤a.lo))&&decide (a.hi≤b.hi))) by first | (simp only [g1_2,g1_6,g1_13,Bool.true_or,Bool.false_or,Bool.true_and,Bool.false_and,Bool.not_true,Bool.not_false]; done) | (simp [g1_2,g1_6,g1_13]; done) | (exfalso; simp_all; done))) .nil) .nil)
    ·skip
     refine .fieldAddrP (.on Y Y Y Y Y) Y t34 Y Y t2 Y Y Y Y<|.load (.on Y Y Y Y Y) Y t2 Y Y (.ptr _ _ _ _ _ Y) Y Y Y Y<|.fieldAddrP (.on Y Y Y Y Y) Y t34 Y Y t2 Y Y Y Y<|.load (.on Y Y Y Y Y) Y t2 Y Y (.ptr _ _ _ _ _ Y) Y Y Y Y<|.bin (.on Y Y Y Y Y) Y Y Y Y Y Y<|.pick (.no Y) Y Y Y Y Y<|.assign (.no Y) Y Y Y Y ?_
     exact .fin () (.of (.cons (svB (show (decide (a.hi≤b.hi))=((((Iv.ok a&&Iv.ok b)&&decide (b.lo≤a.lo))&&decide (a.hi≤b.hi))) by first | (simp only [g1_2,g1_6,g1_13,Bool.true_or,Bool.false_or,Bool.true_and,Bool.false_and,Bool.not_true,Bool.not_false]; done) | (simp [g1_2,g1_6,g1_13]; done) | (exfalso; simp_all; done))) .nil) .nil)
 intro _
 refine .ret ?_
 exact fin0 (.inr Y) (.one (svB (show ((((Iv.ok a&&Iv.ok b)&&decide (b.lo≤a.lo))&&decide (a.hi≤b.hi)))=(Iv.leq a b) by rfl)) .nil) (.dd .nil) Y
theorem c_IvLeq (a:Iv) (b:Iv):Trip Tryz.prog 149 [(true,2),(true,2)] (Iv.c a++Iv.c b) [(false,1)] [.v (.bool (Iv.leq a b))] []:=by
 refine Trip.of Tryz.func149 (by decide) (c:=_) Y Y (Nat.le_of_ble_eq_true Y) Y (AftOk.nil _)<|.seq<|.rs fun k1=>.g (fun _ τ=>⟨_,.box (.no Y) Y Y Y Y Y τ⟩)<|.g (fun _ τ=>⟨_,.box (.no Y) Y Y Y Y Y τ⟩)<|.as Y<|.z<|.seq ?_
 refine .reg (X:=Unit) (fun ζ=>.of [(4,.one (.d (.v (.bool (((Iv.ok a&&Iv.ok b&&decide (b.lo≤a.lo))&&decide (a.hi≤b.hi)))))))] []) [⟨[2],some 5,[[2]],[]⟩,⟨[3],some 6,[[3]],[]⟩,⟨[5,6],some 7,[],[]⟩,⟨[7],some 8,[],[]⟩,⟨[8,3],some 9,[],[]⟩,⟨[8,9],some 10,[[3]],[]⟩,⟨[8,2],some 11,[],[]⟩,⟨[8,11],some 12,[[2]],[]⟩,⟨[8,10,12],some 13,[],[]⟩,⟨[8,13],some 14,[],[]⟩,⟨[14],some 15,[],[]⟩,⟨[15,2],some 16,[],[]⟩,⟨[15,16],some 17,[[2]],[]⟩,⟨[15,3],some 18,[],[]⟩,⟨[15,18],some 19,[[3]],[]⟩,⟨[15,17,19],some 20,[],[]⟩,⟨[15,20],some 21,[],[]⟩,⟨[21],some 4,[],[]⟩] (fun k2=>?_) ?_
 ·skip
  refine .load (.no Y) Y t34 Y Y (.ptr _ _ _ _ _ Y) Y Y Y Y<|.load (.no Y) Y t34 Y Y (.ptr _ _ _ _ _ Y) Y Y Y Y<|.call (.no Y) Y [] [] (c_areIvs a b) Y Y Y Y Y (.dd (.dd (.dd (.dd .nil)))) Y Y (fun h=>absurd Y h) (.own [7,0] .nil) (.nil) Y Y Y (by simp) Y Y Y<|.moveB (.no Y) Y Y Y Y fun b3 g1_3=>?_
  cases b3
  ·skip
   refine .off Y Y Y Y Y Y Y<|.off Y Y Y Y Y Y Y<|.off Y Y Y Y Y Y Y<|.off Y Y Y Y Y Y Y<|.off Y Y Y Y Y Y Y<|.pick (.no Y) Y Y Y Y Y<|.move (.no Y) Y Y Y Y<|.off Y Y Y Y Y Y Y<|.off Y Y Y Y Y Y Y ?_
   refine .off Y Y Y Y Y Y Y<|.off Y Y Y Y Y Y Y<|.off Y Y Y Y Y Y Y<|.pick (.no Y) Y Y Y Y Y<|.assign (.no Y) Y Y Y Y ?_
   exact .fin () (.of (.cons (svB (show (false)=(((Iv.ok a&&Iv.ok b&&decide (b.lo≤a.lo))&&decide (a.hi≤b.hi))) by first | (simp only [g1_3,Bool.true_or,Bool.false_or,Bool.true_and,Bool.false_and,Bool.not_true,Bool.not_false]; done) | (simp [g1_3]; done) | (exfalso; simp_all; done))) .nil) .nil)
  ·skip
   refine .fieldAddrP (.on Y Y Y Y Y) Y t34 Y Y t2 Y Y Y Y<|.load (.on Y Y Y Y Y) Y t2 Y Y (.ptr _ _ _ _ _ Y) Y Y Y Y<|.fieldAddrP (.on Y Y Y Y Y) Y t34 Y Y t2 Y Y Y Y<|.load (.on Y Y Y Y Y) Y t2 Y Y (.ptr _ _ _ _ _ Y) Y Y Y Y<|.bin (.on Y Y Y Y Y) Y Y Y Y Y Y<|.pick (.no Y) Y Y Y Y Y<|.moveB (.no Y) Y Y Y Y fun b4 g1_10=>?_
   cases b4
   ·skip
    refine .off Y Y Y Y Y Y Y<|.off Y Y Y Y Y Y Y<|.off Y Y Y Y Y Y Y<|.off Y Y Y Y Y Y Y<|.off Y Y Y Y Y Y Y<|.pick (.no Y) Y Y Y Y Y<|.assign (.no Y) Y Y Y Y ?_
    exact .fin () (.of (.cons (svB (show (false)=(((Iv.ok a&&Iv.ok b&&decide (b.lo≤a.lo))&&decide (a.hi≤b.hi))) by first | (simp only [g1_3,g1_10,Bool.true_or,Bool.false_or,Bool.true_and,Bool.false_and,Bool.not_true,Bool.not_false]; done) | (simp [g1_3,g1_10]; done) | (exfalso; simp_all; done))) .nil) .nil)
   ·skip
    refine .fieldAddrP (.on Y Y Y Y Y) Y t34 Y Y t2 Y Y Y Y<|.load (.on Y Y Y Y Y) Y t2 Y Y (.ptr _ _ _ _ _ Y) Y Y Y Y<|.fieldAddrP (.on Y Y Y Y Y) Y t34 Y Y t2 Y Y Y Y<|.load (.on Y Y Y Y Y) Y t2 Y Y (.ptr _ _ _ _ _ Y) Y Y Y Y<|.bin (.on Y Y Y Y Y) Y Y Y Y Y Y<|.pick (.no Y) Y Y Y Y Y<|.assign (.no Y) Y Y Y Y ?_
    exact .fin () (.of (.cons (svB (show (decide (a.hi≤b.hi))=(((Iv.ok a&&Iv.ok b&&decide (b.lo≤a.lo))&&decide (a.hi≤b.hi))) by first | (simp only [g1_3,g1_10,Bool.true_or,Bool.false_or,Bool.true_and,Bool.false_and,Bool.not_true,Bool.not_false]; done) | (simp [g1_3,g1_10]; done) | (exfalso; simp_all; done))) .nil) .nil)
 intro _
 refine .ret ?_
 exact fin0 (.inr Y) (.one (svB (show (((Iv.ok a&&Iv.ok b&&decide (b.lo≤a.lo))&&decide (a.hi≤b.hi)))=(Iv.leq a b) by rfl)) .nil) (.dd .nil) Y
end Go.Proofs

namespace Go.Proofs
open Go Go.Proofs Go.Ev

theorem c_l7Place (p:Iv) (s:Int):Trip Tryz.prog 67 [(true,2),(false,1)] (Iv.c p++[.v (.int .i64 (s))]) [(false,1),(false,1)] [.v (.bool (Iv.meets p (allOf s))),.v (.int .i64 (alarmOf p s))] []:=by
 refine Trip.of Tryz.func67 (by decide) (c:=_) Y Y (Nat.le_of_ble_eq_true Y) Y (AftOk.nil _)<|.seq<|.rs fun k1=>.g (fun _ τ=>⟨_,.box (.no Y) Y Y Y Y Y τ⟩)<|.as Y<|.as Y<|.z<|.seq<|.rs fun k2=>?_
 refine .mv Y<|.bi Y<|.g (fun _ τ=>⟨_,.build (.no Y) Y z34 Y p34 Y Y Y Y τ⟩)<|.g (fun _ τ=>⟨_,.alloc (.no Y) Y z34 Y Y Y τ⟩)<|.g (fun _ τ=>⟨_,.store (.no Y) Y t34 Y Y Y Y Y Y Y Y Y τ⟩)<|.z<|.seq<|.rs fun k3=>.lda t34 Y (.ptr _ _ _ _ _ Y) Y ?_
 refine .lda t34 Y (.ptr _ _ _ _ _ Y) Y<|.c0 (c_sIvMeet p (Iv.mk 0 (IntKind.wrap .i64 (s - 1)))) Y (.dd (.dd (.dd (.dd .nil)))) (.own [15,0] (.own [15,1] (.own [15,2] .nil))) Y<|.g (fun _ τ=>⟨_,.move (.no Y) Y Y Y Y τ⟩)<|.g (fun _ τ=>⟨_,.extract (.no Y) Y Y Y Y Y τ⟩)<|.g (fun _ τ=>⟨_,.extract (.no Y) Y Y Y Y Y τ⟩)<|.g (fun _ τ=>⟨_,.alloc (.no Y) Y z34 Y Y Y τ⟩)<|.g (fun _ τ=>⟨_,.store (.no Y) Y t34 Y Y Y Y Y Y Y Y Y τ⟩)<|.as Y<|.z ?_
 refine .seq<|.seq<|.rs fun k4=>.lda t34 Y (.ptr _ _ _ _ _ Y) Y<|.lda t34 Y (.ptr _ _ _ _ _ Y) Y<|.c0 (c_sIvLeq p (Iv.mk 0 (IntKind.wrap .i64 (s - 1)))) Y (.dd (.dd (.dd (.dd .nil)))) (.own [20,0] .nil) Y<|.z ?_
 refine .cond (t:=Iv.leq p (Iv.mk 0 (IntKind.wrap .i64 (s - 1)))) Y (fun c0=>?_) (fun c0=>?_)
 ·have c0:=c0
  refine .seq<|.rs fun k5=>.mv Y<|.as Y<|.as Y<|.z<|.ret ?_
  exact fin0 (.inr Y) (.one (svB (show (Iv.meets p (Iv.mk 0 (IntKind.wrap .i64 (s - 1))))=(Iv.meets p (allOf s)) by first | exact alarm_yes c0 | exact alarm_no c0 | rfl)) (.one (svI (show (0)=(alarmOf p s) by first | exact alarm_yes c0 | exact alarm_no c0 | rfl)) .nil)) (.dd (.dd .nil)) Y
 ·have c0:=c0
  refine .skip<|.seq<|.rs fun k8=>.mv Y<|.as Y<|.as Y<|.z<|.ret ?_
  exact fin0 (.inr Y) (.one (svB (show (Iv.meets p (Iv.mk 0 (IntKind.wrap .i64 (s - 1))))=(Iv.meets p (allOf s)) by first | exact alarm_yes c0 | exact alarm_no c0 | rfl)) (.one (svI (show (2)=(alarmOf p s) by first | exact alarm_yes c0 | exact alarm_no c0 | rfl)) .nil)) (.dd (.dd .nil)) Y
end Go.Proofs

namespace Go.Proofs
open Go Go.Proofs Go.Ev

theorem c_sizeA (l:List Arr):Trip Tryz.prog 108 [(false,1)] ([.sl false 120 2 (List.map Arr.c (l))]) [(false,1)] [.v (.int .i64 ((l.length:Int)))] []:=by
 refine Trip.of Tryz.func108 (by decide) (c:=_) Y Y (Nat.le_of_ble_eq_true Y) Y (AftOk.nil _)<|.sl (t:=0) Y fun hs1l=>.seq<|.rs fun k2=>.as Y<|.z<|.seq<|.rs fun k3=>.mv Y ?_
 refine .g (fun _ τ=>⟨_,.len (.no Y) Y (z:=(l.length:Int)) t38 Y Y Y (.d _ _) (map_len _ _) Y τ⟩)<|.as Y<|.z<|.ret ?_
 exact fin0 (.inr Y) (.one Y .nil) (.dd .nil) Y
theorem c_placed (d:Decl) (v:Int) (p:Iv) (hv:0≤v∧v < (d.arrays.length:Int)):Trip Tryz.prog 111 [(true,3),(false,1),(true,2)] (Decl.c40 d++[.v (.int .i64 (v))]++Iv.c p) [(false,1),(false,1)] [.v (.int .i64 (alarmOf p ((d.arrays.getD v.toNat default).size))),.v (.bool (Iv.meets p (allOf ((d.arrays.getD v.toNat default).size))))] []:=by
 refine Trip.of Tryz.func111 (by decide) (c:=_) Y Y (Nat.le_of_ble_eq_true Y) Y (AftOk.nil _)<|.sla (t:=0) 0 Y Y fun hs1l=>.sla (t:=0) 1 Y Y fun hs2l=>.sla (t:=0) 2 Y Y fun hs3l=>.seq<|.rs fun k4=>.g (fun _ τ=>⟨_,.box (.no Y) Y Y Y Y Y τ⟩)<|.g (fun _ τ=>⟨_,.box (.no Y) Y Y Y Y Y τ⟩)<|.as Y ?_
 refine .as Y<|.z<|.seq<|.rs fun k5=>.fp t40 t38 Y<|.ld t38 Y (.ptr _ _ _ _ _ Y) Y<|.mv Y<|.g (fun _ τ=>⟨_,.indexAddr (.no Y) Y (v.toNat) t38 Y t120 Y Y Y (.d _ _) Y Y (by omega) (map_get (by omega)) Y Y τ⟩)<|.g (fun _ τ=>⟨_,.fieldAddr (.no Y) Y t120 Y Y t2 Y Y Y Y [] (by simp) (by intro _ _ _ h; cases h) Y Y τ⟩) ?_
 refine .ld t2 Y (.d _) Y<|.bi Y<|.g (fun _ τ=>⟨_,.build (.no Y) Y z34 Y p34 Y Y Y Y τ⟩)<|.g (fun _ τ=>⟨_,.alloc (.no Y) Y z34 Y Y Y τ⟩)<|.g (fun _ τ=>⟨_,.store (.no Y) Y t34 Y Y Y Y Y Y Y Y Y τ⟩)<|.z<|.seq<|.rs fun k6=>.lda t34 Y (.ptr _ _ _ _ _ Y) Y ?_
 refine .lda t34 Y (.ptr _ _ _ _ _ Y) Y<|.c0 (c_IvMeet p (Iv.mk 0 (IntKind.wrap .i64 (((d.arrays.getD v.toNat default).size) - 1)))) Y (.dd (.dd (.dd (.dd .nil)))) (.own [22,0] (.own [22,1] (.own [22,2] .nil))) Y<|.g (fun _ τ=>⟨_,.move (.no Y) Y Y Y Y τ⟩)<|.g (fun _ τ=>⟨_,.extract (.no Y) Y Y Y Y Y τ⟩)<|.g (fun _ τ=>⟨_,.extract (.no Y) Y Y Y Y Y τ⟩)<|.g (fun _ τ=>⟨_,.alloc (.no Y) Y z34 Y Y Y τ⟩)<|.g (fun _ τ=>⟨_,.store (.no Y) Y t34 Y Y Y Y Y Y Y Y Y τ⟩)<|.as Y<|.z ?_
 refine .seq<|.seq<|.rs fun k7=>.lda t34 Y (.ptr _ _ _ _ _ Y) Y<|.lda t34 Y (.ptr _ _ _ _ _ Y) Y<|.c0 (c_IvLeq p (Iv.mk 0 (IntKind.wrap .i64 (((d.arrays.getD v.toNat default).size) - 1)))) Y (.dd (.dd (.dd (.dd .nil)))) (.own [27,0] .nil) Y<|.z ?_
 refine .cond (t:=Iv.leq p (Iv.mk 0 (IntKind.wrap .i64 (((d.arrays.getD v.toNat default).size) - 1)))) Y (fun c0=>?_) (fun c0=>?_)
 ·have c0:=c0
  refine .seq<|.rs fun k8=>.mv Y<|.as Y<|.as Y<|.z<|.ret ?_
  exact fin0 (.inr Y) (.one (svI (show (0)=(alarmOf p ((d.arrays.getD v.toNat default).size)) by first | exact alarm_yes c0 | exact alarm_no c0 | rfl)) (.one (svB (show (Iv.meets p (Iv.mk 0 (IntKind.wrap .i64 (((d.arrays.getD v.toNat default).size) - 1))))=(Iv.meets p (allOf ((d.arrays.getD v.toNat default).size))) by first | exact alarm_yes c0 | exact alarm_no c0 | rfl)) .nil)) (.dd (.dd .nil)) Y
 ·have c0:=c0
  refine .skip<|.seq<|.rs fun k11=>.mv Y<|.as Y<|.as Y<|.z<|.ret ?_
  exact fin0 (.inr Y) (.one (svI (show (2)=(alarmOf p ((d.arrays.getD v.toNat default).size)) by first | exact alarm_yes c0 | exact alarm_no c0 | rfl)) (.one (svB (show (Iv.meets p (Iv.mk 0 (IntKind.wrap .i64 (((d.arrays.getD v.toNat default).size) - 1))))=(Iv.meets p (allOf ((d.arrays.getD v.toNat default).size))) by first | exact alarm_yes c0 | exact alarm_no c0 | rfl)) .nil)) (.dd (.dd .nil)) Y
end Go.Proofs

namespace Go.Proofs
open Go Go.Proofs Go.Ev

theorem c_sIvHas (a:Iv) (n:Int):Trip Tryz.prog 138 [(true,2),(false,1)] (Iv.c a++[.v (.int .i64 (n))]) [(false,1)] [.v (.bool (Iv.has a n))] []:=by
 refine Trip.of Tryz.func138 (by decide) (c:=_) Y Y (Nat.le_of_ble_eq_true Y) Y (AftOk.nil _)<|.seq<|.rs fun k1=>.g (fun _ τ=>⟨_,.box (.no Y) Y Y Y Y Y τ⟩)<|.as Y<|.z<|.seq ?_
 refine .reg (X:=Unit) (fun ζ=>.of [(4,.one (.d (.v (.bool ((decide (a.lo≤n)&&decide (n≤a.hi)))))))] []) [⟨[2],some 5,[],[]⟩,⟨[5],some 6,[[2]],[]⟩,⟨[1],some 7,[],[]⟩,⟨[6,7],some 8,[],[]⟩,⟨[8],some 9,[],[]⟩,⟨[9,1],some 10,[],[]⟩,⟨[9,2],some 11,[],[]⟩,⟨[9,11],some 12,[[2]],[]⟩,⟨[9,10,12],some 13,[],[]⟩,⟨[9,13],some 14,[],[]⟩,⟨[14],some 4,[],[]⟩] (fun k2=>?_) ?_
 ·skip
  refine .fieldAddrP (.no Y) Y t34 Y Y t2 Y Y Y Y<|.load (.no Y) Y t2 Y Y (.ptr _ _ _ _ _ Y) Y Y Y Y<|.move (.no Y) Y Y Y Y<|.bin (.no Y) Y Y Y Y Y Y<|.moveB (.no Y) Y Y Y Y fun b3 g1_4=>?_
  cases b3
  ·skip
   refine .off Y Y Y Y Y Y Y<|.off Y Y Y Y Y Y Y<|.off Y Y Y Y Y Y Y<|.off Y Y Y Y Y Y Y<|.pick (.no Y) Y Y Y Y Y<|.assign (.no Y) Y Y Y Y ?_
   exact .fin () (.of (.cons (svB (show (false)=((decide (a.lo≤n)&&decide (n≤a.hi))) by first | (simp only [g1_4,Bool.true_or,Bool.false_or,Bool.true_and,Bool.false_and,Bool.not_true,Bool.not_false]; done) | (simp [g1_4]; done) | (exfalso; simp_all; done))) .nil) .nil)
  ·skip
   refine .move (.on Y Y Y Y Y) Y Y Y Y<|.fieldAddrP (.on Y Y Y Y Y) Y t34 Y Y t2 Y Y Y Y<|.load (.on Y Y Y Y Y) Y t2 Y Y (.ptr _ _ _ _ _ Y) Y Y Y Y<|.bin (.on Y Y Y Y Y) Y Y Y Y Y Y<|.pick (.no Y) Y Y Y Y Y<|.assign (.no Y) Y Y Y Y ?_
   exact .fin () (.of (.cons (svB (show (decide (n≤a.hi))=((decide (a.lo≤n)&&decide (n≤a.hi))) by first | (simp only [g1_4,Bool.true_or,Bool.false_or,Bool.true_and,Bool.false_and,Bool.not_true,Bool.not_false]; done) | (simp [g1_4]; done) | (exfalso; simp_all; done))) .nil) .nil)
 intro _
 refine .ret ?_
 exact fin0 (.inr Y) (.one (svB (show ((decide (a.lo≤n)&&decide (n≤a.hi)))=(Iv.has a n) by (first | rfl | simp_all [Iv.has,inR]))) .nil) (.dd .nil) Y
theorem c_has (a:Iv) (n:Int):Trip Tryz.prog 61 [(true,2),(false,1)] (Iv.c a++[.v (.int .i64 (n))]) [(false,1)] [.v (.bool (Iv.has a n))] []:=by
 refine Trip.of Tryz.func61 (by decide) (c:=_) Y Y (Nat.le_of_ble_eq_true Y) Y (AftOk.nil _)<|.seq<|.rs fun k1=>.g (fun _ τ=>⟨_,.box (.no Y) Y Y Y Y Y τ⟩)<|.as Y<|.z<|.seq<|.rs fun k2=>.mv Y ?_
 refine .fp t34 t2 Y<|.ld t2 Y (.ptr _ _ _ _ _ Y) Y<|.fp t34 t2 Y<|.ld t2 Y (.ptr _ _ _ _ _ Y) Y<|.c0 (c_within n a.lo a.hi) Y (.dd (.dd (.dd .nil))) (.own [10,0] .nil) Y<|.as Y<|.z<|.ret ?_
 exact fin0 (.inr Y) (.one (svB (show (inR n a.lo a.hi)=(Iv.has a n) by rfl)) .nil) (.dd .nil) Y
end Go.Proofs

namespace Go.Proofs
open Go Go.Proofs Go.Ev

theorem c_l5One (b:Bool):Trip Tryz.prog 142 [(false,1)] ([.v (.bool (b))]) [(false,1)] [.v (.int .i64 (truthN b))] []:=by
 refine Trip.of Tryz.func142 (by decide) (c:=_) Y Y (Nat.le_of_ble_eq_true Y) Y (AftOk.nil _)<|.seq<|.rs fun k1=>.as Y<|.z<|.seq<|.seq<|.rs fun k2=>.mv Y ?_
 refine .z ?_
 refine .cond (t:=b) Y (fun c0=>?_) (fun c0=>?_)
 ·have c0:=c0
  refine .seq<|.rs fun k3=>.as Y<|.z<|.ret ?_
  exact fin0 (.inr Y) (.one (svI (show (1)=(truthN b) by (rw [c0]; rfl))) .nil) (.dd .nil) Y
 ·have c0:=c0
  refine .skip<|.seq<|.rs fun k5=>.as Y<|.z<|.ret ?_
  exact fin0 (.inr Y) (.one (svI (show (0)=(truthN b) by (rw [c0]; rfl))) .nil) (.dd .nil) Y
theorem c_truth (b:Bool):Trip Tryz.prog 110 [(false,1)] ([.v (.bool (b))]) [(false,1)] [.v (.int .i64 (truthN b))] []:=by
 refine Trip.of Tryz.func110 (by decide) (c:=_) Y Y (Nat.le_of_ble_eq_true Y) Y (AftOk.nil _)<|.seq<|.rs fun k1=>.as Y<|.z<|.seq<|.seq<|.rs fun k2=>.mv Y ?_
 refine .z ?_
 refine .cond (t:=b) Y (fun c0=>?_) (fun c0=>?_)
 ·have c0:=c0
  refine .seq<|.rs fun k3=>.as Y<|.z<|.ret ?_
  exact fin0 (.inr Y) (.one (svI (show (1)=(truthN b) by (rw [c0]; rfl))) .nil) (.dd .nil) Y
 ·have c0:=c0
  refine .skip<|.seq<|.rs fun k5=>.as Y<|.z<|.ret ?_
  exact fin0 (.inr Y) (.one (svI (show (0)=(truthN b) by (rw [c0]; rfl))) .nil) (.dd .nil) Y
end Go.Proofs

namespace Go.Proofs
open Go Go.Proofs Go.Ev

theorem c_leaves (d:Decl):Trip Tryz.prog 73 [(true,3)] (Decl.c40 d) [(false,1)] [.v (.int .i64 (leavesOf d))] []:=by
 refine Trip.of Tryz.func73 (by decide) (c:=_) Y Y (Nat.le_of_ble_eq_true Y) Y (AftOk.nil _)<|.sla (t:=0) 0 Y Y fun hs1l=>.sla (t:=0) 1 Y Y fun hs2l=>.sla (t:=0) 2 Y Y fun hs3l=>.seq<|.rs fun k4=>.g (fun _ τ=>⟨_,.box (.no Y) Y Y Y Y Y τ⟩)<|.as Y<|.z ?_
 refine .seq<|.rs fun k5=>.fp t40 t22 Y<|.ld t22 Y (.ptr _ _ _ _ _ Y) Y<|.g (fun _ τ=>⟨_,.len (.no Y) Y (z:=(d.flags.length:Int)) t22 Y Y Y (.d _ _) (map_len _ _) Y τ⟩)<|.g (fun _ τ=>⟨_,.shl (.no Y) Y Y Y Y (by omega) Y Y τ⟩)<|.as Y<|.z<|.ret ?_
 exact fin0 (.inr Y) (.one (svI (show (IntKind.wrap .i64 (1 * 2 ^ (min ((d.flags.length:Int)).toNat (IntKind.bits .i64))))=(leavesOf d) by rfl)) .nil) (.dd .nil) Y
end Go.Proofs

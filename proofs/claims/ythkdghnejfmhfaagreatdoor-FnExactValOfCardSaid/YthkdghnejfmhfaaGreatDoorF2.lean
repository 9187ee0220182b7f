/- Contracts of the program's functions at this seat, printed by a program of ours and checked by Lean: each under the conditions of its own statement. -/
import Derived.Test.YthkdghnejfmhfaaGreatDoorF1
set_option linter.all false
set_option linter.unnecessarySimpa false
set_option linter.unusedSectionVars false
set_option linter.unusedSimpArgs false
set_option linter.unusedVariables false
namespace Go.Proofs
open Go Go.Proofs Go.Ev

def Tok.c (x:Tok):List D:=[.v (.int .i64 (x.op)),.v (.int .i64 (x.n))]
theorem Tok.c_o (x:Tok):∀ d∈Tok.c x,Owned d:=by simp [Tok.c,Owned.v]
theorem Tok.c_e (x:Tok):(Tok.c x).map D.erase=Tok.c x:=by simp [Tok.c,D.erase_v]
def i26:TI:=⟨.sl 79,1,24,[.slice none 0 0]⟩
theorem t26:TyOk Tryz.prog 26 i26:=⟨Tryz.underlying26,by kernel_rfl⟩
theorem z26:ZOk Tryz.prog 26 i26:=⟨t26,rfl⟩
def i42:TI:=⟨.sl 77,1,24,[.slice none 0 0]⟩
theorem t42:TyOk Tryz.prog 42 i42:=⟨Tryz.underlying42,by kernel_rfl⟩
theorem z42:ZOk Tryz.prog 42 i42:=⟨t42,rfl⟩
def i77:TI:=⟨.st [(0,2),(1,2)],2,16,[.int .i64 0,.int .i64 0]⟩
theorem t77:TyOk Tryz.prog 77 i77:=⟨⟨_,Tryz.underlying77,rfl⟩,by kernel_rfl⟩
theorem z77:ZOk Tryz.prog 77 i77:=⟨t77,rfl⟩
theorem p77:Places Tryz.prog [(0,2),(1,2)] [(0,1),(1,1)]:=by unfold Places; kernel_rfl
def i79:TI:=⟨.st [(0,2),(1,2)],2,16,[.int .i64 0,.int .i64 0]⟩
theorem t79:TyOk Tryz.prog 79 i79:=⟨⟨_,Tryz.underlying79,rfl⟩,by kernel_rfl⟩
theorem z79:ZOk Tryz.prog 79 i79:=⟨t79,rfl⟩
theorem p79:Places Tryz.prog [(0,2),(1,2)] [(0,1),(1,1)]:=by unfold Places; kernel_rfl
theorem c_szTokS (a:List Tok) (left:Int) (hl:0≤left∧left≤1048576):Trip Tryz.prog 6 [(false,1),(false,1)] ([.sl false 79 2 (List.map Tok.c (a))]++[.v (.int .i64 (left))]) [(false,1)] [.v (.int .i64 (szPl a left))] []:=by
 refine Trip.of Tryz.func6 (by decide) (c:=_) Y Y (Nat.le_of_ble_eq_true Y) Y (AftOk.nil _)<|.sl (t:=0) Y fun hs1l=>.seq<|.rs fun k2=>.as Y<|.z<|.seq<|.rs fun k3=>.mv Y ?_
 refine .mv Y<|.g (fun _ τ=>⟨_,.len (.no Y) Y (z:=(a.length:Int)) t26 Y Y Y (.d _ _) (map_len _ _) Y τ⟩)<|.bi Y<|.as Y<|.z<|.seq<|.seq<|.rs fun k4=>.mv Y ?_
 refine .bi Y<|.z ?_
 refine .cond (t:=decide ((IntKind.wrap .i64 (left - (a.length:Int))) < 0)) Y (fun c0=>?_) (fun c0=>?_)
 ·have c0:=of_decide_eq_true c0
  refine .seq<|.rs fun k5=>.as Y<|.z<|.ret ?_
  exact fin0 (.inr Y) (.one (svI (show (-1)=(szPl a left) by (rw [wrap_le (by omega) (by omega)] at c0; simp only [szPl]; rw [if_pos c0]))) .nil) (.dd .nil) Y
 ·have c0:=of_decide_eq_false c0
  refine .skip<|.seq<|.rs fun k7=>.mv Y<|.as Y<|.z<|.ret ?_
  exact fin0 (.inr Y) (.one (svI (show (IntKind.wrap .i64 (left - (a.length:Int)))=(szPl a left) by (rw [wrap_le (by omega) (by omega)] at c0 ⊢; simp only [szPl]; rw [if_neg c0]))) .nil) (.dd .nil) Y
theorem c_toTok (a:Tok):Trip Tryz.prog 32 [(true,2)] (Tok.c a) [(true,2)] [.v (.int .i64 (a.op)),.v (.int .i64 (a.n))] []:=by
 refine Trip.of Tryz.func32 (by decide) (c:=_) Y Y (Nat.le_of_ble_eq_true Y) Y (AftOk.nil _)<|.seq<|.rs fun k1=>.g (fun _ τ=>⟨_,.box (.no Y) Y Y Y Y Y τ⟩)<|.g (fun _ τ=>⟨_,.alloc (.no Y) Y z77 Y Y Y τ⟩)<|.z<|.seq<|.rs fun k2=>.g (fun _ τ=>⟨_,.alloc (.no Y) Y z77 Y Y Y τ⟩) ?_
 refine .z<|.seq<|.rs fun k3=>.fp t79 t2 Y<|.ld t2 Y (.ptr _ _ _ _ _ Y) Y<|.fp t77 t2 Y<|.g (fun _ τ=>⟨_,.store (.no Y) Y t2 Y Y Y Y Y Y Y Y Y τ⟩)<|.z<|.seq ?_
 refine .rs fun k4=>.fp t79 t2 Y<|.ld t2 Y (.ptr _ _ _ _ _ Y) Y<|.fp t77 t2 Y<|.g (fun _ τ=>⟨_,.store (.no Y) Y t2 Y Y Y Y Y Y Y Y Y τ⟩)<|.z<|.seq<|.rs fun k5=>.lda t77 Y (.ptr _ _ _ _ _ Y) Y ?_
 refine .g (fun _ τ=>⟨_,.store (.no Y) Y t77 Y Y Y Y Y Y Y Y Y τ⟩)<|.z<|.ret ?_
 exact fin0 (.inr Y) (.cell (cells:=[.d (.v (.int .i64 (a.op))),.d (.v (.int .i64 (a.n)))]) Y Y t77 Y Y .nil) (.dd (.dd .nil)) Y
theorem c_toTokS (a:List Tok) (hb:a.length≤1048576):Trip Tryz.prog 10 [(false,1)] ([.sl false 79 2 (List.map Tok.c (a))]) [(false,1)] [.sl true 77 2 (List.map Tok.c (a))] []:=by
 refine Trip.of Tryz.func10 (by decide) (c:=_) Y Y (Nat.le_of_ble_eq_true Y) Y (AftOk.nil _)<|.sl (t:=0) Y fun hs1l=>.seq<|.rs fun k2=>.as Y<|.z<|.seq<|.rs fun k3=>.mv Y ?_
 refine .g (fun _ τ=>⟨_,.len (.no Y) Y (z:=(a.length:Int)) t26 Y Y Y (.d _ _) (map_len _ _) Y τ⟩)<|.g (fun _ τ=>⟨_,.makeSlice (.no Y) Y (n0:=a.length) (els:=List.map Tok.c (List.replicate a.length (Tok.mk 0 0))) t42 Y z77 Y Y Y Y Y (by (simp [i77]; omega)) (by omega) (rep_map _ _ _ Y) Y τ⟩)<|.as Y<|.z<|.seq<|.seq<|.rs fun k4=>.as Y<|.z ?_
 refine .block ?_
 refine .loop (X:=Nat × Nat × Nat) (fun ζ=>.of [(0,.one (.d (.sl false 79 2 (List.map Tok.c (a))))),(3,.one (.ref [7] (ζ.2.1))),(4,.one (.d (.v (.int .i64 ((ζ.1:Int))))))] [([7],(ζ.2.1,ζ.2.2,.row 77 2 (List.map Tok.c (fillTo a (Tok.mk 0 0) ζ.1))))]) (fun ζ=>ζ.1≤a.length) (fun ζ=>a.length - ζ.1) ?_ ?_
 ·skip
  exact .here (0,(k3+1+1),(k3+1+1)) (.of (.cons Y (.cons (by show SV.one (.ref [7] (k3+1+1))=SV.one (.ref [7] ((k3+1+1))); first | rfl | simp_all) (.cons (svI (show (0)=((0:Int)) by first | rfl | omega | exact wrap_le (by omega) (by omega) | (rw [wrap_le (by omega) (by omega)]; omega))) .nil))) (.cons (rowE (show List.map Tok.c (List.replicate a.length (Tok.mk 0 0))=List.map Tok.c (fillTo a (Tok.mk 0 0) 0) by first | rfl | (rw [fillTo_zero]) | (rw [fillTo_step _ _ _ (by omega) Y]))) .nil)) (show 0≤a.length by omega)
 ·rintro ⟨j,q5,q6⟩ hI
  have hI:j≤a.length:=hI
  dsimp only
  refine .seq<|.seq<|.rs fun k7=>.mv Y<|.mv Y<|.g (fun _ τ=>⟨_,.len (.no Y) Y (z:=(a.length:Int)) t26 Y Y Y (.d _ _) (map_len _ _) Y τ⟩)<|.bi Y<|.z ?_
  refine .cond (t:=decide ((j:Int) < (a.length:Int))) Y (fun c0=>?_) (fun c0=>?_)
  ·have c0:=of_decide_eq_true c0
   refine .skip<|.seq<|.block<|.rs fun k8=>.mv Y<|.mv Y<|.mv Y<|.mv Y<|.g (fun _ τ=>⟨_,.indexAddr (.no Y) Y (j) t26 Y t79 Y Y Y (.d _ _) Y Y Y (map_get (by first | omega | (rw [fillTo_len]; omega))) Y Y τ⟩) ?_
   refine .lda t79 Y (.d _) Y<|.c0 (c_toTok (a.getD j default)) Y (.dd (.dd .nil)) (.own [20,0] (.own [20,1] .nil)) Y<|.g (fun _ τ=>⟨_,.indexAddr (.no Y) Y (j) t42 Y t77 Y Y Y (.ref _ _ _ _ _ Y) Y Y Y (map_get (by first | omega | (rw [fillTo_len]; omega))) Y Y τ⟩)<|.g (fun _ τ=>⟨_,.storeE (.no Y) Y (els':=List.map Tok.c ((fillTo a (Tok.mk 0 0) j).set j (a.getD j default))) t77 Y Y Y Y (map_get (by first | omega | (rw [fillTo_len]; omega))) Y Y (.cons _ _ _ _ _ _ (.d _) (.cons _ _ _ _ _ _ (.d _) .nil)) Y (Nat.le_of_ble_eq_true Y) (set_map _ _ _ (a.getD j default) _ Y) Y Y τ⟩)<|.z<|.rs fun k9=>.mv Y<|.bi Y<|.as Y ?_
   refine .z ?_
   exact .here ((j+1),q5,(k8+1+1+1+1+1+1+1+1)) (.of (.cons Y (.cons Y (.cons (svI (show (IntKind.wrap .i64 ((j:Int)+1))=(((j+1):Int)) by first | rfl | omega | exact wrap_le (by omega) (by omega) | (rw [wrap_le (by omega) (by omega)]; omega))) .nil))) (.cons (rowE (show List.map Tok.c ((fillTo a (Tok.mk 0 0) j).set j (a.getD j default))=List.map Tok.c (fillTo a (Tok.mk 0 0) (j+1)) by first | rfl | (rw [fillTo_zero]) | (rw [fillTo_step _ _ _ (by omega) Y]))) .nil)) ⟨(show (j+1)≤a.length by omega),(show a.length - (j+1) < a.length - j by omega)⟩
  ·have c0:=of_decide_eq_false c0
   refine .exit<|.seq<|.rs fun k10=>.mv Y<|.as Y<|.z<|.ret ?_
   have e11:(fillTo a (Tok.mk 0 0) j)=(a):=by (exact fillTo_all _ _ (by omega))
   exact fin1 (.inr Y) [] [([7],(q5,q6,.row 77 2 (List.map Tok.c (a))))] (.one Y .nil) (.cons (.ref (.head _)) .nil) Y Y (.cons (rowE (congrArg (List.map Tok.c) e11)) .nil)
theorem c_eqTok (a:Tok) (b:Tok):Trip Tryz.prog 40 [(true,2),(true,2)] (Tok.c a++Tok.c b) [(false,1)] [.v (.bool (Tok.same a b))] []:=by
 refine Trip.of Tryz.func40 (by decide) (c:=_) Y Y (Nat.le_of_ble_eq_true Y) Y (AftOk.nil _)<|.seq<|.rs fun k1=>.g (fun _ τ=>⟨_,.box (.no Y) Y Y Y Y Y τ⟩)<|.g (fun _ τ=>⟨_,.box (.no Y) Y Y Y Y Y τ⟩)<|.as Y<|.z<|.seq<|.seq ?_
 refine .rs fun k2=>.fp t77 t2 Y<|.ld t2 Y (.ptr _ _ _ _ _ Y) Y<|.fp t77 t2 Y<|.ld t2 Y (.ptr _ _ _ _ _ Y) Y<|.bi Y<|.z ?_
 refine .cond (t:=a.op != b.op) Y (fun c0=>?_) (fun c0=>?_)
 ·have c0:=(by simpa using c0:¬ (a.op=b.op))
  refine .seq<|.rs fun k3=>.as Y<|.z<|.ret ?_
  exact fin0 (.inr Y) (.one (svB (show (false)=(Tok.same a b) by (simp_all [Tok.same]))) .nil) (.dd .nil) Y
 ·have c0:=(by simpa using c0:a.op=b.op)
  refine .skip<|.seq<|.seq<|.rs fun k5=>.fp t77 t2 Y<|.ld t2 Y (.ptr _ _ _ _ _ Y) Y<|.fp t77 t2 Y<|.ld t2 Y (.ptr _ _ _ _ _ Y) Y<|.bi Y ?_
  refine .z ?_
  refine .cond (t:=a.n != b.n) Y (fun c1=>?_) (fun c1=>?_)
  ·have c1:=(by simpa using c1:¬ (a.n=b.n))
   refine .seq<|.rs fun k6=>.as Y<|.z<|.ret ?_
   exact fin0 (.inr Y) (.one (svB (show (false)=(Tok.same a b) by (simp_all [Tok.same]))) .nil) (.dd .nil) Y
  ·have c1:=(by simpa using c1:a.n=b.n)
   refine .skip<|.seq<|.rs fun k8=>.as Y<|.z<|.ret ?_
   exact fin0 (.inr Y) (.one (svB (show (true)=(Tok.same a b) by (simp_all [Tok.same]))) .nil) (.dd .nil) Y
theorem c_eqTokS (a:List Tok) (b:List Tok):Trip Tryz.prog 15 [(false,1),(false,1)] ([.sl false 77 2 (List.map Tok.c (a))]++[.sl false 77 2 (List.map Tok.c (b))]) [(false,1)] [.v (.bool (all2 Tok.same a b))] []:=by
 refine Trip.of Tryz.func15 (by decide) (c:=_) Y Y (Nat.le_of_ble_eq_true Y) Y (AftOk.nil _)<|.sl (t:=0) Y fun hs1l=>.sl (t:=1) Y fun hs2l=>.seq<|.rs fun k3=>.as Y<|.z<|.seq<|.seq ?_
 refine .rs fun k4=>.mv Y<|.g (fun _ τ=>⟨_,.len (.no Y) Y (z:=(a.length:Int)) t42 Y Y Y (.d _ _) (map_len _ _) Y τ⟩)<|.mv Y<|.g (fun _ τ=>⟨_,.len (.no Y) Y (z:=(b.length:Int)) t42 Y Y Y (.d _ _) (map_len _ _) Y τ⟩)<|.bi Y<|.z ?_
 refine .cond (t:=(a.length:Int) != (b.length:Int)) Y (fun c0=>?_) (fun c0=>?_)
 ·have c0:=(by simpa using c0:¬ ((a.length:Int)=(b.length:Int)))
  refine .seq<|.rs fun k5=>.as Y<|.z<|.ret ?_
  exact fin0 (.inr Y) (.one (svB (show (false)=(all2 Tok.same a b) by exact (all2_ne _ c0).symm)) .nil) (.dd .nil) Y
 ·have c0:=(by simpa using c0:(a.length:Int)=(b.length:Int))
  refine .skip<|.seq<|.seq<|.rs fun k7=>.as Y<|.z<|.block ?_
  refine .loop (X:=Nat) (fun ζ=>.of [(0,.one (.d (.sl false 77 2 (List.map Tok.c (a))))),(1,.one (.d (.sl false 77 2 (List.map Tok.c (b))))),(5,.one (.d (.v (.int .i64 ((ζ:Int))))))] []) (fun ζ=>ζ≤a.length∧a.length=b.length∧allTo ζ (fun i=>Tok.same (a.getD i default) (b.getD i default))=true) (fun ζ=>a.length - ζ) ?_ ?_
  ·skip
   exact .here 0 (.of (.cons Y (.cons Y (.cons (svI (show (0)=((0:Int)) by first | rfl | omega | exact wrap_le (by omega) (by omega) | (rw [wrap_le (by omega) (by omega)]; omega))) .nil))) .nil) (show 0≤a.length∧a.length=b.length∧allTo 0 (fun i=>Tok.same (a.getD i default) (b.getD i default))=true by exact ⟨by omega,by omega,rfl⟩)
  ·rintro j hI
   have hI:j≤a.length∧a.length=b.length∧allTo j (fun i=>Tok.same (a.getD i default) (b.getD i default))=true:=hI
   refine .seq<|.seq<|.rs fun k8=>.mv Y<|.mv Y<|.g (fun _ τ=>⟨_,.len (.no Y) Y (z:=(a.length:Int)) t42 Y Y Y (.d _ _) (map_len _ _) Y τ⟩)<|.bi Y<|.z ?_
   refine .cond (t:=decide ((j:Int) < (a.length:Int))) Y (fun c1=>?_) (fun c1=>?_)
   ·have c1:=of_decide_eq_true c1
    refine .skip<|.seq<|.block<|.seq ?_
    refine .regD (X:=Unit) (by kernel_rfl) (fun ζ=>.of [(0,.one (.d (.sl false 77 2 (List.map Tok.c (a))))),(1,.one (.d (.sl false 77 2 (List.map Tok.c (b))))),(5,.one (.d (.v (.int .i64 ((j:Int)))))),(26,.one (.d (.v (.bool (!(Tok.same (a.getD j default) (b.getD j default)))))))] []) [⟨[0],some 17,[],[]⟩,⟨[5],some 18,[],[]⟩,⟨[17,18],some 19,[],[]⟩,⟨[19],some 20,[],[]⟩,⟨[1],some 21,[],[]⟩,⟨[5],some 22,[],[]⟩,⟨[21,22],some 23,[],[]⟩,⟨[23],some 24,[],[]⟩,⟨[20,24],some 25,[],[]⟩,⟨[25],some 26,[],[]⟩] (by kernel_rfl) (fun k9=>?_) ?_
    ·skip
     refine .move (.no Y) Y Y Y Y<|.move (.no Y) Y Y Y Y<|.indexAddr (.no Y) Y (j) t42 Y t77 Y Y Y (.d _ _) Y Y Y (map_get (by omega)) Y Y<|.load (.no Y) Y t77 Y Y (.d _) Y Y Y Y<|.move (.no Y) Y Y Y Y<|.move (.no Y) Y Y Y Y<|.indexAddr (.no Y) Y (j) t42 Y t77 Y Y Y (.d _ _) Y Y Y (map_get (by omega)) Y Y<|.load (.no Y) Y t77 Y Y (.d _) Y Y Y Y<|.call (.no Y) Y [] [] (c_eqTok (a.getD j default) (b.getD j default)) Y Y Y Y Y (.dd (.dd (.dd (.dd .nil)))) Y Y (fun h=>absurd Y h) (.own [25,0] .nil) (.nil) Y Y Y (by simp) Y Y Y ?_
     refine .un (.no Y) Y Y Y Y Y ?_
     exact .fin () (.of (.r Y) .nil)
    intro _
    refine .cond (t:=!(Tok.same (a.getD j default) (b.getD j default))) Y (fun c2=>?_) (fun c2=>?_)
    ·have c2:=(nT id) c2
     refine .seq<|.rs fun k10=>.as Y<|.z<|.ret ?_
     exact fin0 (.inr Y) (.one (svB (show (false)=(all2 Tok.same a b) by exact (all2_fail _ (j:=j) (by omega) (by simpa [] using c2)).symm)) .nil) (.dd .nil) Y
    ·have c2:=(nF id) c2
     refine .skip<|.rs fun k12=>.mv Y<|.bi Y<|.as Y<|.z ?_
     exact .here (j+1) (.of (.cons Y (.cons Y (.cons (svI (show (IntKind.wrap .i64 ((j:Int)+1))=(((j+1):Int)) by first | rfl | omega | exact wrap_le (by omega) (by omega) | (rw [wrap_le (by omega) (by omega)]; omega))) .nil))) .nil) ⟨(show (j+1)≤a.length∧a.length=b.length∧allTo (j+1) (fun i=>Tok.same (a.getD i default) (b.getD i default))=true by exact ⟨by omega,by omega,allTo_step hI.2.2 (by simpa [] using c2)⟩),(show a.length - (j+1) < a.length - j by omega)⟩
   ·have c1:=of_decide_eq_false c1
    refine .exit<|.seq<|.rs fun k13=>.as Y<|.z<|.ret ?_
    exact fin0 (.inr Y) (.one (svB (show (true)=(all2 Tok.same a b) by (have hj:j=a.length:=(by omega); subst hj; exact (all2_done _ hI.2.1 hI.2.2).symm))) .nil) (.dd .nil) Y
end Go.Proofs

namespace Go.Proofs
open Go Go.Proofs Go.Ev

def i64c (x:Int):List D:=[.v (.int .i64 x)]
theorem i64c_e (x:Int):(i64c x).map D.erase=i64c x:=by simp [i64c,D.erase_v]
theorem i64c_o (x:Int):∀ d∈i64c x,Owned d:=by simp [i64c,Owned.v]
def i62:TI:=⟨.sl 2,1,24,[.slice none 0 0]⟩
theorem t62:TyOk Tryz.prog 62 i62:=⟨Tryz.underlying62,by kernel_rfl⟩
theorem z62:ZOk Tryz.prog 62 i62:=⟨t62,rfl⟩
def i127:TI:=⟨.fn,1,8,[.nilFunc]⟩
theorem t127:TyOk Tryz.prog 127 i127:=⟨⟨_,_,_,Tryz.underlying127⟩,by kernel_rfl⟩
theorem z127:ZOk Tryz.prog 127 i127:=⟨t127,rfl⟩
theorem c_l3Takes (op:Int):Trip Tryz.prog 54 [(false,1)] ([.v (.int .i64 (op))]) [(false,1)] [.v (.int .i64 (takesN op))] []:=by
 refine Trip.of Tryz.func54 (by decide) (c:=_) Y Y (Nat.le_of_ble_eq_true Y) Y (AftOk.nil _)<|.seq<|.rs fun k1=>.as Y<|.z<|.seq<|.block<|.seq<|.rs fun k2=>?_
 refine .mv Y<|.bi Y<|.as Y<|.z ?_
 refine .cond (t:=decide (op≤5)) Y (fun c0=>?_) (fun c0=>?_)
 ·have c0:=of_decide_eq_true c0
  refine .seq<|.rs fun k3=>.as Y<|.z<|.ret ?_
  exact fin0 (.inr Y) (.one (svI (show (0)=(takesN op) by (unfold takesN; rw [if_pos c0]))) .nil) (.dd .nil) Y
 ·have c0:=of_decide_eq_false c0
  refine .seq ?_
  refine .reg (X:=Unit) (fun ζ=>.of [(6,.one (.d (.v (.bool ((decide (op≤7)||op == 19))))))] []) [⟨[0],some 7,[],[]⟩,⟨[7],some 8,[],[]⟩,⟨[8],some 9,[],[]⟩,⟨[9,0],some 10,[],[]⟩,⟨[9,10],some 11,[],[]⟩,⟨[9,11],some 12,[],[]⟩,⟨[12],some 6,[],[]⟩] (fun k5=>?_) ?_
  ·skip
   refine .move (.no Y) Y Y Y Y<|.bin (.no Y) Y Y Y Y Y Y<|.moveB (.no Y) Y Y Y Y fun b6 g3_2=>?_
   cases b6
   ·skip
    refine .move (.on Y Y Y Y Y) Y Y Y Y<|.bin (.on Y Y Y Y Y) Y Y Y Y Y Y<|.pick (.no Y) Y Y Y Y Y<|.assign (.no Y) Y Y Y Y ?_
    exact .fin () (.of (.cons (svB (show (op == 19)=((decide (op≤7)||op == 19)) by first | (simp only [g3_2,Bool.true_or,Bool.false_or,Bool.true_and,Bool.false_and,Bool.not_true,Bool.not_false]; done) | (simp [g3_2]; done) | (exfalso; simp_all; done))) .nil) .nil)
   ·skip
    refine .off Y Y Y Y Y Y Y<|.off Y Y Y Y Y Y Y<|.pick (.no Y) Y Y Y Y Y<|.assign (.no Y) Y Y Y Y ?_
    exact .fin () (.of (.cons (svB (show (true)=((decide (op≤7)||op == 19)) by first | (simp only [g3_2,Bool.true_or,Bool.false_or,Bool.true_and,Bool.false_and,Bool.not_true,Bool.not_false]; done) | (simp [g3_2]; done) | (exfalso; simp_all; done))) .nil) .nil)
  intro _
  refine .cond (t:=(decide (op≤7)||op == 19)) Y (fun c1=>?_) (fun c1=>?_)
  ·have c1:=(oT dT eT) c1
   refine .seq<|.rs fun k7=>.as Y<|.z<|.ret ?_
   exact fin0 (.inr Y) (.one (svI (show (1)=(takesN op) by (unfold takesN; rw [if_neg c0,if_pos c1]))) .nil) (.dd .nil) Y
  ·have c1:=(oF dF eF) c1
   refine .skip<|.seq<|.rs fun k9=>.as Y<|.z<|.ret ?_
   exact fin0 (.inr Y) (.one (svI (show (2)=(takesN op) by (unfold takesN; rw [if_neg c0,if_neg (by omega)]))) .nil) (.dd .nil) Y
theorem c_l3Kinds (op:Int):Trip Tryz.prog 55 [(false,1)] ([.v (.int .i64 (op))]) [(false,1),(false,1)] [.v (.int .i64 (kdT op)),.v (.int .i64 (kdL op))] []:=by
 refine Trip.of Tryz.func55 (by decide) (c:=_) Y Y (Nat.le_of_ble_eq_true Y) Y (AftOk.nil _)<|.seq<|.rs fun k1=>.as Y<|.as Y<|.z<|.seq<|.block<|.seq ?_
 refine .reg (X:=Unit) (fun ζ=>.of [(0,.one (.d (.v (.int .i64 (op))))),(4,.one (.d (.v (.bool (((op == 3||op == 4)||op == 5))))))] []) [⟨[0],some 5,[],[]⟩,⟨[5],some 6,[],[]⟩,⟨[6],some 7,[],[]⟩,⟨[7,0],some 8,[],[]⟩,⟨[7,8],some 9,[],[]⟩,⟨[7,9],some 10,[],[]⟩,⟨[10],some 11,[],[]⟩,⟨[11,0],some 12,[],[]⟩,⟨[11,12],some 13,[],[]⟩,⟨[11,13],some 14,[],[]⟩,⟨[14],some 4,[],[]⟩] (fun k2=>?_) ?_
 ·skip
  refine .move (.no Y) Y Y Y Y<|.bin (.no Y) Y Y Y Y Y Y<|.moveB (.no Y) Y Y Y Y fun b3 g1_2=>?_
  cases b3
  ·skip
   refine .move (.on Y Y Y Y Y) Y Y Y Y<|.bin (.on Y Y Y Y Y) Y Y Y Y Y Y<|.pick (.no Y) Y Y Y Y Y<|.moveB (.no Y) Y Y Y Y fun b4 g1_6=>?_
   cases b4
   ·skip
    refine .move (.on Y Y Y Y Y) Y Y Y Y<|.bin (.on Y Y Y Y Y) Y Y Y Y Y Y<|.pick (.no Y) Y Y Y Y Y<|.assign (.no Y) Y Y Y Y ?_
    exact .fin () (.of (.cons Y (.cons (svB (show (op == 5)=(((op == 3||op == 4)||op == 5)) by first | (simp only [g1_2,g1_6,Bool.true_or,Bool.false_or,Bool.true_and,Bool.false_and,Bool.not_true,Bool.not_false]; done) | (simp [g1_2,g1_6]; done) | (exfalso; simp_all; done))) .nil)) .nil)
   ·skip
    refine .off Y Y Y Y Y Y Y<|.off Y Y Y Y Y Y Y<|.pick (.no Y) Y Y Y Y Y<|.assign (.no Y) Y Y Y Y ?_
    exact .fin () (.of (.cons Y (.cons (svB (show (true)=(((op == 3||op == 4)||op == 5)) by first | (simp only [g1_2,g1_6,Bool.true_or,Bool.false_or,Bool.true_and,Bool.false_and,Bool.not_true,Bool.not_false]; done) | (simp [g1_2,g1_6]; done) | (exfalso; simp_all; done))) .nil)) .nil)
  ·skip
   refine .off Y Y Y Y Y Y Y<|.off Y Y Y Y Y Y Y<|.pick (.no Y) Y Y Y Y Y<|.move (.no Y) Y Y Y Y<|.off Y Y Y Y Y Y Y<|.off Y Y Y Y Y Y Y<|.pick (.no Y) Y Y Y Y Y<|.assign (.no Y) Y Y Y Y ?_
   exact .fin () (.of (.cons Y (.cons (svB (show (true)=(((op == 3||op == 4)||op == 5)) by first | (simp only [g1_2,Bool.true_or,Bool.false_or,Bool.true_and,Bool.false_and,Bool.not_true,Bool.not_false]; done) | (simp [g1_2]; done) | (exfalso; simp_all; done))) .nil)) .nil)
 intro _
 refine .cond (t:=((op == 3||op == 4)||op == 5)) Y (fun c0=>?_) (fun c0=>?_)
 ·have c0:=(oT (oT eT eT) eT) c0
  refine .seq<|.rs fun k5=>.as Y<|.as Y<|.z<|.ret ?_
  exact fin0 (.inr Y) (.one (svI (show (0)=(kdT op) by (first | (unfold kdT; rw [if_pos (by omega)]) | (unfold kdL; rw [if_pos (by omega)])))) (.one (svI (show (2)=(kdL op) by (first | (unfold kdT; rw [if_pos (by omega)]) | (unfold kdL; rw [if_pos (by omega)])))) .nil)) (.dd (.dd .nil)) Y
 ·have c0:=(oF (oF eF eF) eF) c0
  refine .seq<|.rs fun k8=>.mv Y<|.bi Y<|.as Y<|.z ?_
  refine .cond (t:=decide (op≤12)) Y (fun c1=>?_) (fun c1=>?_)
  ·have c1:=of_decide_eq_true c1
   refine .seq<|.rs fun k9=>.as Y<|.as Y<|.z<|.ret ?_
   exact fin0 (.inr Y) (.one (svI (show (1)=(kdT op) by (first | (unfold kdT; rw [if_neg (by omega),if_pos c1]) | (unfold kdL; rw [if_neg (by omega),if_pos c1])))) (.one (svI (show (1)=(kdL op) by (first | (unfold kdT; rw [if_neg (by omega),if_pos c1]) | (unfold kdL; rw [if_neg (by omega),if_pos c1])))) .nil)) (.dd (.dd .nil)) Y
  ·have c1:=of_decide_eq_false c1
   refine .seq<|.rs fun k12=>.mv Y<|.bi Y<|.as Y<|.z ?_
   refine .cond (t:=decide (op≤18)) Y (fun c2=>?_) (fun c2=>?_)
   ·have c2:=of_decide_eq_true c2
    refine .seq<|.rs fun k13=>.as Y<|.as Y<|.z<|.ret ?_
    exact fin0 (.inr Y) (.one (svI (show (1)=(kdT op) by (first | (unfold kdT; rw [if_neg (by omega),if_neg c1,if_pos c2]) | (unfold kdL; rw [if_neg (by omega),if_neg c1,if_pos c2])))) (.one (svI (show (2)=(kdL op) by (first | (unfold kdT; rw [if_neg (by omega),if_neg c1,if_pos c2]) | (unfold kdL; rw [if_neg (by omega),if_neg c1,if_pos c2])))) .nil)) (.dd (.dd .nil)) Y
   ·have c2:=of_decide_eq_false c2
    refine .skip<|.seq<|.rs fun k16=>.as Y<|.as Y<|.z<|.ret ?_
    exact fin0 (.inr Y) (.one (svI (show (2)=(kdT op) by (first | (unfold kdT; rw [if_neg (by omega),if_neg c1,if_neg c2]) | (unfold kdL; rw [if_neg (by omega),if_neg c1,if_neg c2])))) (.one (svI (show (2)=(kdL op) by (first | (unfold kdT; rw [if_neg (by omega),if_neg c1,if_neg c2]) | (unfold kdL; rw [if_neg (by omega),if_neg c1,if_neg c2])))) .nil)) (.dd (.dd .nil)) Y
theorem c_l3Tok (d:Decl) (t:Tok):Trip Tryz.prog 56 [(true,3),(true,2)] (Decl.c40 d++Tok.c t) [(false,1)] [.v (.bool (Tok.ok d t))] []:=by
 refine Trip.of Tryz.func56 (by decide) (c:=_) Y Y (Nat.le_of_ble_eq_true Y) Y (AftOk.nil _)<|.sla (t:=0) 0 Y Y fun hs1l=>.sla (t:=0) 1 Y Y fun hs2l=>.sla (t:=0) 2 Y Y fun hs3l=>.seq<|.rs fun k4=>.g (fun _ τ=>⟨_,.box (.no Y) Y Y Y Y Y τ⟩)<|.g (fun _ τ=>⟨_,.box (.no Y) Y Y Y Y Y τ⟩)<|.as Y ?_
 refine .z<|.seq<|.seq<|.rs fun k5=>.fp t77 t2 Y<|.ld t2 Y (.ptr _ _ _ _ _ Y) Y<|.z<|.block<|.seq ?_
 refine .rs fun k6=>.bi Y<|.as Y<|.z ?_
 refine .cond (t:=t.op == 1) Y (fun c0=>?_) (fun c0=>?_)
 ·have c0:=(by simpa using c0:t.op=1)
  refine .seq<|.rs fun k7=>.fp t77 t2 Y<|.ld t2 Y (.ptr _ _ _ _ _ Y) Y<|.c0 (c_l1In t.n 0 999999999999999999) Y (.dd (.dd (.dd .nil))) (.own [11,0] .nil) Y<|.as Y<|.z<|.ret ?_
  exact fin0 (.inr Y) (.one (svB (show (inR t.n 0 999999999999999999)=(Tok.ok d t) by (unfold Tok.ok; rw [if_pos c0]))) .nil) (.dd .nil) Y
 ·have c0:=(by simpa using c0:¬ (t.op=1))
  refine .seq<|.rs fun k9=>.bi Y<|.as Y<|.z ?_
  refine .cond (t:=t.op == 2) Y (fun c1=>?_) (fun c1=>?_)
  ·have c1:=(by simpa using c1:t.op=2)
   refine .seq<|.rs fun k10=>.fp t77 t2 Y<|.ld t2 Y (.ptr _ _ _ _ _ Y) Y<|.fp t40 t22 Y<|.ld t22 Y (.ptr _ _ _ _ _ Y) Y<|.g (fun _ τ=>⟨_,.len (.no Y) Y (z:=(d.vars.length:Int)) t22 Y Y Y (.d _ _) (map_len _ _) Y τ⟩)<|.g (fun _ τ=>⟨_,.binN (.no Y) Y (show IntKind.wrap .i64 ((d.vars.length:Int) - 1)=(d.vars.length:Int) - 1 by (exact wrap_le (by omega) (by omega))) Y Y Y Y Y τ⟩)<|.c0 (c_l1In t.n 0 ((d.vars.length:Int) - 1)) Y (.dd (.dd (.dd .nil))) (.own [20,0] .nil) Y ?_
   refine .as Y<|.z<|.ret ?_
   exact fin0 (.inr Y) (.one (svB (show (inR t.n 0 ((d.vars.length:Int) - 1))=(Tok.ok d t) by (unfold Tok.ok; rw [if_neg c0,if_pos c1]))) .nil) (.dd .nil) Y
  ·have c1:=(by simpa using c1:¬ (t.op=2))
   refine .seq<|.rs fun k12=>.bi Y<|.as Y<|.z ?_
   refine .cond (t:=t.op == 3) Y (fun c2=>?_) (fun c2=>?_)
   ·have c2:=(by simpa using c2:t.op=3)
    refine .seq<|.rs fun k13=>.fp t77 t2 Y<|.ld t2 Y (.ptr _ _ _ _ _ Y) Y<|.fp t40 t22 Y<|.ld t22 Y (.ptr _ _ _ _ _ Y) Y<|.g (fun _ τ=>⟨_,.len (.no Y) Y (z:=(d.flags.length:Int)) t22 Y Y Y (.d _ _) (map_len _ _) Y τ⟩)<|.g (fun _ τ=>⟨_,.binN (.no Y) Y (show IntKind.wrap .i64 ((d.flags.length:Int) - 1)=(d.flags.length:Int) - 1 by (exact wrap_le (by omega) (by omega))) Y Y Y Y Y τ⟩)<|.c0 (c_l1In t.n 0 ((d.flags.length:Int) - 1)) Y (.dd (.dd (.dd .nil))) (.own [29,0] .nil) Y ?_
    refine .as Y<|.z<|.ret ?_
    exact fin0 (.inr Y) (.one (svB (show (inR t.n 0 ((d.flags.length:Int) - 1))=(Tok.ok d t) by (unfold Tok.ok; rw [if_neg c0,if_neg c1,if_pos c2]))) .nil) (.dd .nil) Y
   ·have c2:=(by simpa using c2:¬ (t.op=3))
    refine .seq<|.rs fun k15=>.bi Y<|.as Y<|.z ?_
    refine .cond (t:=t.op == 6) Y (fun c3=>?_) (fun c3=>?_)
    ·have c3:=(by simpa using c3:t.op=6)
     refine .seq<|.rs fun k16=>.fp t77 t2 Y<|.ld t2 Y (.ptr _ _ _ _ _ Y) Y<|.fp t40 t38 Y<|.ld t38 Y (.ptr _ _ _ _ _ Y) Y<|.g (fun _ τ=>⟨_,.len (.no Y) Y (z:=(d.arrays.length:Int)) t38 Y Y Y (.d _ _) (map_len _ _) Y τ⟩)<|.g (fun _ τ=>⟨_,.binN (.no Y) Y (show IntKind.wrap .i64 ((d.arrays.length:Int) - 1)=(d.arrays.length:Int) - 1 by (exact wrap_le (by omega) (by omega))) Y Y Y Y Y τ⟩)<|.c0 (c_l1In t.n 0 ((d.arrays.length:Int) - 1)) Y (.dd (.dd (.dd .nil))) (.own [38,0] .nil) Y ?_
     refine .as Y<|.z<|.ret ?_
     exact fin0 (.inr Y) (.one (svB (show (inR t.n 0 ((d.arrays.length:Int) - 1))=(Tok.ok d t) by (unfold Tok.ok; rw [if_neg c0,if_neg c1,if_neg c2,if_pos c3]))) .nil) (.dd .nil) Y
    ·have c3:=(by simpa using c3:¬ (t.op=6))
     refine .skip<|.seq ?_
     refine .reg (X:=Unit) (fun ζ=>.of [(4,.one (.d (.v (.bool ((inR t.op 4 21&&t.n == 0))))))] []) [⟨[3],some 39,[],[]⟩,⟨[39],some 40,[[3]],[]⟩,⟨[40],some 41,[],[]⟩,⟨[41],some 42,[],[]⟩,⟨[42,3],some 43,[],[]⟩,⟨[42,43],some 44,[[3]],[]⟩,⟨[42,44],some 45,[],[]⟩,⟨[42,45],some 46,[],[]⟩,⟨[46],some 4,[],[]⟩] (fun k18=>?_) ?_
     ·skip
      refine .fieldAddrP (.no Y) Y t77 Y Y t2 Y Y Y Y<|.load (.no Y) Y t2 Y Y (.ptr _ _ _ _ _ Y) Y Y Y Y<|.call (.no Y) Y [] [] (c_l1In t.op 4 21) Y Y Y Y Y (.dd (.dd (.dd .nil))) Y Y (fun h=>absurd Y h) (.own [41,0] .nil) (.nil) Y Y Y (by simp) Y Y Y<|.moveB (.no Y) Y Y Y Y fun b19 g10_3=>?_
      cases b19
      ·skip
       refine .off Y Y Y Y Y Y Y<|.off Y Y Y Y Y Y Y<|.off Y Y Y Y Y Y Y<|.pick (.no Y) Y Y Y Y Y<|.assign (.no Y) Y Y Y Y ?_
       exact .fin () (.of (.cons (svB (show (false)=((inR t.op 4 21&&t.n == 0)) by first | (simp only [g10_3,Bool.true_or,Bool.false_or,Bool.true_and,Bool.false_and,Bool.not_true,Bool.not_false]; done) | (simp [g10_3]; done) | (exfalso; simp_all; done))) .nil) .nil)
      ·skip
       refine .fieldAddrP (.on Y Y Y Y Y) Y t77 Y Y t2 Y Y Y Y<|.load (.on Y Y Y Y Y) Y t2 Y Y (.ptr _ _ _ _ _ Y) Y Y Y Y<|.bin (.on Y Y Y Y Y) Y Y Y Y Y Y<|.pick (.no Y) Y Y Y Y Y<|.assign (.no Y) Y Y Y Y ?_
       exact .fin () (.of (.cons (svB (show (t.n == 0)=((inR t.op 4 21&&t.n == 0)) by first | (simp only [g10_3,Bool.true_or,Bool.false_or,Bool.true_and,Bool.false_and,Bool.not_true,Bool.not_false]; done) | (simp [g10_3]; done) | (exfalso; simp_all; done))) .nil) .nil)
     intro _
     refine .ret ?_
     exact fin0 (.inr Y) (.one (svB (show ((inR t.op 4 21&&t.n == 0))=(Tok.ok d t) by (unfold Tok.ok; rw [if_neg c0,if_neg c1,if_neg c2,if_neg c3]))) .nil) (.dd .nil) Y
theorem c_sExprOk (d:Decl) (l:List Tok) (hs:∀ x∈Decl.names d,x.size≤9223372036854775807) (hd:d.vars.length≤1048576∧d.flags.length≤1048576∧d.arrays.length≤1048576):Trip Tryz.prog 20 [(true,3),(false,1)] (Decl.c40 d++[.sl false 77 2 (List.map Tok.c (l))]) [(false,1)] [.v (.int .i64 (Expr.kindIn d l))] []:=by
 refine Trip.of Tryz.func20 (by decide) (c:=_) Y Y (Nat.le_of_ble_eq_true Y) Y (AftOk.nil _)<|.sla (t:=0) 0 Y Y fun hs1l=>.sla (t:=0) 1 Y Y fun hs2l=>.sla (t:=0) 2 Y Y fun hs3l=>.sl (t:=1) Y fun hs4l=>.seq<|.rs fun k5=>.g (fun _ τ=>⟨_,.box (.no Y) Y Y Y Y Y τ⟩)<|.as Y ?_
 refine .z<|.seq<|.seq ?_
 refine .reg (X:=Unit) (fun ζ=>.of [(1,.one (.d (.sl false 77 2 (List.map Tok.c (l))))),(2,.one (.ptr [2] (k5) 0)),(18,.one (.d (.v (.bool ((!(Decl.ok d)||decide ((l.length:Int) > 40)))))))] [([2],(k5,k5,.box [.d (.sl false 9 1 (List.map strc (d.vars))),.d (.sl false 9 1 (List.map strc (d.flags))),.d (.sl false 120 2 (List.map Arr.c (d.arrays)))]))]) [⟨[2],some 11,[[2]],[]⟩,⟨[11],some 12,[],[]⟩,⟨[12],some 13,[],[]⟩,⟨[13],some 14,[],[]⟩,⟨[14,1],some 15,[],[]⟩,⟨[14,15],some 16,[],[]⟩,⟨[14,16],some 17,[],[]⟩,⟨[14,17],some 18,[],[]⟩] (fun k6=>?_) ?_
 ·skip
  refine .load (.no Y) Y t40 Y Y (.ptr _ _ _ _ _ Y) Y Y Y Y<|.call (.no Y) Y [] [] (c_sDeclOk d (by assumption) (by assumption)) Y Y Y Y Y (.dd (.dd (.dd .nil))) Y Y (fun h=>absurd Y h) (.own [12,0] .nil) (.nil) Y Y Y (by simp) Y Y Y<|.un (.no Y) Y Y Y Y Y<|.moveB (.no Y) Y Y Y Y fun b7 g1_3=>?_
  cases b7
  ·skip
   refine .move (.on Y Y Y Y Y) Y Y Y Y<|.len (.on Y Y Y Y Y) Y (z:=(l.length:Int)) t42 Y Y Y (.d _ _) (map_len _ _) Y<|.bin (.on Y Y Y Y Y) Y Y Y Y Y Y<|.pick (.no Y) Y Y Y Y Y ?_
   exact .fin () (.of (.cons Y (.cons Y (.cons (svB (show (decide ((l.length:Int) > 40))=((!(Decl.ok d)||decide ((l.length:Int) > 40))) by first | (simp only [g1_3,Bool.true_or,Bool.false_or,Bool.true_and,Bool.false_and,Bool.not_true,Bool.not_false]; done) | (simp [g1_3]; done) | (exfalso; simp_all; done))) .nil))) (.r Y))
  ·skip
   refine .off Y Y Y Y Y Y Y<|.off Y Y Y Y Y Y Y<|.off Y Y Y Y Y Y Y<|.pick (.no Y) Y Y Y Y Y ?_
   exact .fin () (.of (.cons Y (.cons Y (.cons (svB (show (true)=((!(Decl.ok d)||decide ((l.length:Int) > 40))) by first | (simp only [g1_3,Bool.true_or,Bool.false_or,Bool.true_and,Bool.false_and,Bool.not_true,Bool.not_false]; done) | (simp [g1_3]; done) | (exfalso; simp_all; done))) .nil))) (.r Y))
 intro _
 refine .cond (t:=(!(Decl.ok d)||decide ((l.length:Int) > 40))) Y (fun c0=>?_) (fun c0=>?_)
 ·have c0:=(oT (nT id) dT) c0
  have hz:Expr.kindIn d l=0:=by unfold Expr.kindIn; rcases c0 with h | h<;>first | (rw [h]; rfl) | (rw [kind_long (by omega)]; simp)
  refine .seq<|.rs fun k8=>.as Y<|.z<|.ret ?_
  exact fin0 (.inr Y) (.one (svI (show (0)=(Expr.kindIn d l) by (exact hz.symm))) .nil) (.dd .nil) Y
 ·have c0:=(oF (nF id) dF) c0
  have hz:Expr.kindIn d l=Expr.kind d l:=by unfold Expr.kindIn; rw [if_pos c0.1]
  refine .skip<|.seq<|.rs fun k10=>.g (fun _ τ=>⟨_,.buildSlice (.no Y) Y (els:=[]) t62 Y z2 Y Y Y Y Y Y Y Y (by simp [i2]) .nil Y Y Y τ⟩)<|.as Y<|.z<|.seq<|.seq<|.rs fun k11=>?_
  refine .as Y<|.z<|.block ?_
  refine .loop (X:=Nat × List Int × Nat × Nat) (fun ζ=>.of [(1,.one (.d (.sl false 77 2 (List.map Tok.c (l))))),(2,.one (.ptr [2] (k5) 0)),(5,.one (.ref [19] (ζ.2.2.1))),(6,.one (.d (.v (.int .i64 ((ζ.1:Int))))))] [([2],(k5,k5,.box [.d (.sl false 9 1 (List.map strc (d.vars))),.d (.sl false 9 1 (List.map strc (d.flags))),.d (.sl false 120 2 (List.map Arr.c (d.arrays)))])),([19],(ζ.2.2.1,ζ.2.2.2,.row 2 1 (List.map i64c (ζ.2.1))))]) (fun ζ=>ζ.1≤l.length∧kdS d l ζ.1=some ζ.2.1) (fun ζ=>l.length - ζ.1) ?_ ?_
  ·skip
   exact .here (0,[],k10,k10) (.of (.cons Y (.cons Y (.cons Y (.cons (svI (show (0)=((0:Int)) by first | rfl | omega | exact wrap_le (by omega) (by omega) | (rw [wrap_le (by omega) (by omega)]; omega))) .nil)))) (.cons Y (.cons (rowE (show []=List.map i64c ([]) by first | with_reducible rfl | rfl | skip)) .nil))) (show 0≤l.length∧kdS d l 0=some [] by exact ⟨by omega,rfl⟩)
  ·rintro ⟨j,p,q12,q13⟩ hI
   have hI:j≤l.length∧kdS d l j=some p:=hI
   have hp9:=kdS_len hI.2
   have ht9:=takesN_bnd (l.getD j default).op
   dsimp only
   refine .seq<|.seq<|.rs fun k14=>.mv Y<|.mv Y<|.g (fun _ τ=>⟨_,.len (.no Y) Y (z:=(l.length:Int)) t42 Y Y Y (.d _ _) (map_len _ _) Y τ⟩)<|.bi Y<|.z ?_
   refine .cond (t:=decide ((j:Int) < (l.length:Int))) Y (fun c1=>?_) (fun c1=>?_)
   ·have c1:=of_decide_eq_true c1
    refine .skip<|.seq<|.block<|.seq<|.rs fun k15=>.mv Y<|.mv Y<|.g (fun _ τ=>⟨_,.indexAddr (.no Y) Y (j) t42 Y t77 Y Y Y (.d _ _) Y Y Y (map_get (by first | omega | (have h9:=hI; omega))) Y Y τ⟩)<|.g (fun _ τ=>⟨_,.fieldAddr (.no Y) Y t77 Y Y t2 Y Y Y Y [] (by simp) (by intro _ _ _ h; cases h) Y Y τ⟩) ?_
    refine .ld t2 Y (.d _) Y<|.c0 (c_l3Takes ((l.getD j default).op)) Y (.dd .nil) (.own [31,0] .nil) Y<|.as Y<|.z<|.seq<|.rs fun k16=>.mv Y<|.mv Y<|.g (fun _ τ=>⟨_,.indexAddr (.no Y) Y (j) t42 Y t77 Y Y Y (.d _ _) Y Y Y (map_get (by first | omega | (have h9:=hI; omega))) Y Y τ⟩) ?_
    refine .g (fun _ τ=>⟨_,.fieldAddr (.no Y) Y t77 Y Y t2 Y Y Y Y [] (by simp) (by intro _ _ _ h; cases h) Y Y τ⟩)<|.ld t2 Y (.d _) Y<|.c0 (c_l3Kinds ((l.getD j default).op)) Y (.dd .nil) (.own [38,0] (.own [38,1] .nil)) Y<|.g (fun _ τ=>⟨_,.move (.no Y) Y Y Y Y τ⟩)<|.g (fun _ τ=>⟨_,.extract (.no Y) Y Y Y Y Y τ⟩)<|.g (fun _ τ=>⟨_,.extract (.no Y) Y Y Y Y Y τ⟩)<|.as Y<|.as Y<|.z ?_
    refine .seq<|.seq ?_
    refine .regD (X:=Unit) (by kernel_rfl) (fun ζ=>.of [(1,.one (.d (.sl false 77 2 (List.map Tok.c (l))))),(2,.one (.ptr [2] (k5) 0)),(5,.one (.ref [19] (q12))),(6,.one (.d (.v (.int .i64 ((j:Int)))))),(7,.one (.d (.v (.int .i64 (takesN ((l.getD j default).op)))))),(8,.one (.d (.v (.int .i64 (kdT ((l.getD j default).op)))))),(9,.one (.d (.v (.int .i64 (kdL ((l.getD j default).op)))))),(53,.one (.d (.v (.bool ((!(Tok.ok d (l.getD j default))||decide ((p.length:Int) < (takesN ((l.getD j default).op)))))))))] [([2],(k5,k5,.box [.d (.sl false 9 1 (List.map strc (d.vars))),.d (.sl false 9 1 (List.map strc (d.flags))),.d (.sl false 120 2 (List.map Arr.c (d.arrays)))])),([19],(q12,q13,.row 2 1 (List.map i64c (p))))]) [⟨[2],some 41,[[2]],[]⟩,⟨[1],some 42,[],[]⟩,⟨[6],some 43,[],[]⟩,⟨[42,43],some 44,[],[]⟩,⟨[44],some 45,[],[]⟩,⟨[41,45],some 46,[],[]⟩,⟨[46],some 47,[],[]⟩,⟨[47],some 48,[],[]⟩,⟨[48,5],some 49,[],[]⟩,⟨[48,49],some 50,[[19]],[]⟩,⟨[48,7],some 51,[],[]⟩,⟨[48,50,51],some 52,[],[]⟩,⟨[48,52],some 53,[],[]⟩] (by kernel_rfl) (fun k17=>?_) ?_
    ·skip
     refine .load (.no Y) Y t40 Y Y (.ptr _ _ _ _ _ Y) Y Y Y Y<|.move (.no Y) Y Y Y Y<|.move (.no Y) Y Y Y Y<|.indexAddr (.no Y) Y (j) t42 Y t77 Y Y Y (.d _ _) Y Y Y (map_get (by first | omega | (have h9:=hI; omega))) Y Y<|.load (.no Y) Y t77 Y Y (.d _) Y Y Y Y<|.call (.no Y) Y [] [] (c_l3Tok d (l.getD j default)) Y Y Y Y Y (.dd (.dd (.dd (.dd (.dd .nil))))) Y Y (fun h=>absurd Y h) (.own [46,0] .nil) (.nil) Y Y Y (by simp) Y Y Y<|.un (.no Y) Y Y Y Y Y<|.moveB (.no Y) Y Y Y Y fun b18 g9_7=>?_
     cases b18
     ·skip
      refine .move (.on Y Y Y Y Y) Y Y Y Y<|.len (.on Y Y Y Y Y) Y (z:=(p.length:Int)) t62 Y Y Y (.ref _ _ _ _ _ Y) (map_len _ _) Y<|.move (.on Y Y Y Y Y) Y Y Y Y<|.bin (.on Y Y Y Y Y) Y Y Y Y Y Y<|.pick (.no Y) Y Y Y Y Y ?_
      exact .fin () (.of (.cons Y (.cons Y (.cons Y (.cons Y (.cons Y (.cons Y (.cons Y (.cons (svB (show (decide ((p.length:Int) < (takesN ((l.getD j default).op))))=((!(Tok.ok d (l.getD j default))||decide ((p.length:Int) < (takesN ((l.getD j default).op))))) by first | (simp only [g9_7,Bool.true_or,Bool.false_or,Bool.true_and,Bool.false_and,Bool.not_true,Bool.not_false]; done) | (simp [g9_7]; done) | (exfalso; simp_all; done))) .nil)))))))) (.r Y))
     ·skip
      refine .off Y Y Y Y Y Y Y<|.off Y Y Y Y Y Y Y<|.off Y Y Y Y Y Y Y<|.off Y Y Y Y Y Y Y<|.pick (.no Y) Y Y Y Y Y ?_
      exact .fin () (.of (.cons Y (.cons Y (.cons Y (.cons Y (.cons Y (.cons Y (.cons Y (.cons (svB (show (true)=((!(Tok.ok d (l.getD j default))||decide ((p.length:Int) < (takesN ((l.getD j default).op))))) by first | (simp only [g9_7,Bool.true_or,Bool.false_or,Bool.true_and,Bool.false_and,Bool.not_true,Bool.not_false]; done) | (simp [g9_7]; done) | (exfalso; simp_all; done))) .nil)))))))) (.r Y))
    intro _
    refine .cond (t:=(!(Tok.ok d (l.getD j default))||decide ((p.length:Int) < (takesN ((l.getD j default).op))))) Y (fun c2=>?_) (fun c2=>?_)
    ·have c2:=(oT (nT id) dT) c2
     have hb:kdS d l (j+1)=none:=by rcases c2 with h | h; exact kdS_bad hI.2 h; by_cases ho:Tok.ok d (l.getD j default)=true; exact (kdS_go hI.2 ho).trans (kst_less (Tok.ok_op ho) h); exact kdS_bad hI.2 (by simpa using ho)
     refine .seq<|.rs fun k19=>.as Y<|.z<|.ret ?_
     exact fin0 (.inr Y) (.one (svI (show (0)=(Expr.kindIn d l) by (rw [hz,kind_none (by omega) hb]))) .nil) (.dd .nil) Y
    ·have c2:=(oF (nF id) dF) c2
     have ho:=Tok.ok_op c2.1
     refine .skip<|.seq<|.seq<|.rs fun k21=>.mv Y<|.g (fun _ τ=>⟨_,.len (.no Y) Y (z:=(p.length:Int)) t62 Y Y Y (.ref _ _ _ _ _ Y) (map_len _ _) Y τ⟩)<|.mv Y<|.g (fun _ τ=>⟨_,.binN (.no Y) Y (show IntKind.wrap .i64 ((p.length:Int) - (takesN ((l.getD j default).op)))=(p.length:Int) - takesN (l.getD j default).op by (exact wrap_le (by omega) (by omega))) Y Y Y Y Y τ⟩)<|.as Y ?_
     refine .z<|.block ?_
     refine .loop (X:=Nat) (fun ζ=>.of [(1,.one (.d (.sl false 77 2 (List.map Tok.c (l))))),(2,.one (.ptr [2] (k5) 0)),(5,.one (.ref [19] (q12))),(6,.one (.d (.v (.int .i64 ((j:Int)))))),(7,.one (.d (.v (.int .i64 (takesN ((l.getD j default).op)))))),(8,.one (.d (.v (.int .i64 (kdT ((l.getD j default).op)))))),(9,.one (.d (.v (.int .i64 (kdL ((l.getD j default).op)))))),(10,.one (.d (.v (.int .i64 ((p.length:Int) - takesN (l.getD j default).op+(ζ:Int))))))] [([2],(k5,k5,.box [.d (.sl false 9 1 (List.map strc (d.vars))),.d (.sl false 9 1 (List.map strc (d.flags))),.d (.sl false 120 2 (List.map Arr.c (d.arrays)))])),([19],(q12,q13,.row 2 1 (List.map i64c (p))))]) (fun ζ=>(ζ:Int)≤takesN (l.getD j default).op∧(∀ i:Nat,(p.length:Int) - takesN (l.getD j default).op≤(i:Int)→(i:Int) < (p.length:Int) - takesN (l.getD j default).op+(ζ:Int)→p.getD i default=kdT (l.getD j default).op)) (fun ζ=>2 - ζ) ?_ ?_
     ·skip
      exact .here 0 (.of (.cons Y (.cons Y (.cons Y (.cons Y (.cons Y (.cons Y (.cons Y (.cons (svI (show ((p.length:Int) - takesN (l.getD j default).op)=((p.length:Int) - takesN (l.getD j default).op+(0:Int)) by first | rfl | omega | exact wrap_le (by omega) (by omega) | (rw [wrap_le (by omega) (by omega)]; omega))) .nil)))))))) (.r Y)) (show (0:Int)≤takesN (l.getD j default).op∧(∀ i:Nat,(p.length:Int) - takesN (l.getD j default).op≤(i:Int)→(i:Int) < (p.length:Int) - takesN (l.getD j default).op+(0:Int)→p.getD i default=kdT (l.getD j default).op) by exact ⟨by omega,fun i h1 h2=>by omega⟩)
     ·rintro u hI
      have hI:(u:Int)≤takesN (l.getD j default).op∧(∀ i:Nat,(p.length:Int) - takesN (l.getD j default).op≤(i:Int)→(i:Int) < (p.length:Int) - takesN (l.getD j default).op+(u:Int)→p.getD i default=kdT (l.getD j default).op):=hI
      have hI1:=‹j≤l.length∧_›
      refine .seq<|.seq<|.rs fun k22=>.mv Y<|.mv Y<|.g (fun _ τ=>⟨_,.len (.no Y) Y (z:=(p.length:Int)) t62 Y Y Y (.ref _ _ _ _ _ Y) (map_len _ _) Y τ⟩)<|.bi Y<|.z ?_
      refine .cond (t:=decide (((p.length:Int) - takesN (l.getD j default).op+(u:Int)) < (p.length:Int))) Y (fun c3=>?_) (fun c3=>?_)
      ·have c3:=of_decide_eq_true c3
       refine .skip<|.seq<|.block<|.seq<|.rs fun k23=>.mv Y<|.mv Y<|.g (fun _ τ=>⟨_,.indexAddr (.no Y) Y (((p.length:Int) - takesN (l.getD j default).op+(u:Int)).toNat) t62 Y t2 Y Y Y (.ref _ _ _ _ _ Y) Y Y (by omega) (map_get (by first | omega | (have h9:=hI; omega))) Y Y τ⟩)<|.ld t2 Y (.eptr _ _ _ _ _ _ _ _ _ Y (map_get (by first | omega | (have h9:=hI; omega)))) Y ?_
       refine .mv Y<|.bi Y<|.z ?_
       refine .cond (t:=(p.getD (((p.length:Int) - takesN (l.getD j default).op+(u:Int)).toNat) default) != (kdT ((l.getD j default).op))) Y (fun c4=>?_) (fun c4=>?_)
       ·have c4:=(by simpa using c4:¬ ((p.getD (((p.length:Int) - takesN (l.getD j default).op+(u:Int)).toNat) default)=(kdT ((l.getD j default).op))))
        have hb:kdS d l (j+1)=none:=(kdS_go hI1.2 c2.1).trans (kst_wrong ho c2.2 (by omega) (by omega) c4)
        refine .seq<|.rs fun k24=>.as Y<|.z<|.ret ?_
        exact fin0 (.inr Y) (.one (svI (show (0)=(Expr.kindIn d l) by (rw [hz,kind_none (by omega) hb]))) .nil) (.dd .nil) Y
       ·have c4:=(by simpa using c4:(p.getD (((p.length:Int) - takesN (l.getD j default).op+(u:Int)).toNat) default)=(kdT ((l.getD j default).op)))
        refine .skip<|.rs fun k26=>.mv Y<|.bi Y<|.as Y<|.z ?_
        exact .here (u+1) (.of (.cons Y (.cons Y (.cons Y (.cons Y (.cons Y (.cons Y (.cons Y (.cons (svI (show (IntKind.wrap .i64 (((p.length:Int) - takesN (l.getD j default).op+(u:Int))+1))=((p.length:Int) - takesN (l.getD j default).op+((u+1):Int)) by first | rfl | omega | exact wrap_le (by omega) (by omega) | (rw [wrap_le (by omega) (by omega)]; omega))) .nil)))))))) (.r Y)) ⟨(show ((u+1):Int)≤takesN (l.getD j default).op∧(∀ i:Nat,(p.length:Int) - takesN (l.getD j default).op≤(i:Int)→(i:Int) < (p.length:Int) - takesN (l.getD j default).op+((u+1):Int)→p.getD i default=kdT (l.getD j default).op) by exact ⟨by omega,kd_next hI.2 c4⟩),(show 2 - (u+1) < 2 - u by omega)⟩
      ·have c3:=of_decide_eq_false c3
       refine .exit<|.rs fun k27=>.mv Y<|.mv Y<|.g (fun _ τ=>⟨_,.len (.no Y) Y (z:=(p.length:Int)) t62 Y Y Y (.ref _ _ _ _ _ Y) (map_len _ _) Y τ⟩)<|.mv Y<|.g (fun _ τ=>⟨_,.binN (.no Y) Y (show IntKind.wrap .i64 ((p.length:Int) - (takesN ((l.getD j default).op)))=(p.length:Int) - takesN (l.getD j default).op by (exact wrap_le (by omega) (by omega))) Y Y Y Y Y τ⟩)<|.g (fun _ τ=>⟨_,.trim (.no Y) Y (hv:=((p.length:Int) - takesN (l.getD j default).op).toNat) (els':=List.map i64c (p.take (((p.length:Int) - takesN (l.getD j default).op).toNat))) t62 Y t2 Y Y Y Y (by exact ⟨_,nat_iv (a:=(p.length:Int) - takesN (l.getD j default).op) (by omega)⟩) (le_map (by omega)) (by rw [List.map_take]) Y τ⟩)<|.mv Y ?_
       refine .g (fun _ τ=>⟨_,.buildSlice (.no Y) Y (els:=[[.v (.int .i64 (kdL ((l.getD j default).op)))]]) t62 Y z2 Y Y Y Y Y Y Y Y (by simp [i2]) (.cons _ _ _ _ _ _ (.d _) .nil) Y Y Y τ⟩)<|.g (fun _ τ=>⟨_,.append (.no Y) Y (l3:=List.map i64c (p.take (((p.length:Int) - takesN (l.getD j default).op).toNat)++[kdL ((l.getD j default).op)])) t62 Y z2 Y Y Y Y Y Y Y Y (.ref _ _ _ _ Y) (.take _ _ _ _ _ Y) Y (by first | (simp [i2]; omega) | (simp [i3]; omega)) (map_snoc _ _ _) Y Y τ⟩)<|.as Y<|.z<|.rs fun k28=>.mv Y<|.bi Y<|.as Y<|.z ?_
       exact .here ((j+1),(p.take ((p.length:Int) - takesN (l.getD j default).op).toNat++[kdL (l.getD j default).op]),(k27+1+1+1+1+1+1+1+1),(k27+1+1+1+1+1+1+1+1)) (.of (.cons Y (.cons Y (.cons (by show SV.one (.ref [19] (k27+1+1+1+1+1+1+1+1))=SV.one (.ref [19] ((k27+1+1+1+1+1+1+1+1))); first | rfl | simp_all) (.cons (svI (show (IntKind.wrap .i64 ((j:Int)+1))=(((j+1):Int)) by first | rfl | omega | exact wrap_le (by omega) (by omega) | (rw [wrap_le (by omega) (by omega)]; omega))) .nil)))) (.cons Y (.cons (rowE (show List.map i64c (p.take (((p.length:Int) - takesN (l.getD j default).op).toNat)++[kdL ((l.getD j default).op)])=List.map i64c ((p.take ((p.length:Int) - takesN (l.getD j default).op).toNat++[kdL (l.getD j default).op])) by first | with_reducible rfl | rfl | skip)) .nil))) ⟨(show (j+1)≤l.length∧kdS d l (j+1)=some (p.take ((p.length:Int) - takesN (l.getD j default).op).toNat++[kdL (l.getD j default).op]) by exact ⟨by omega,kd_each hI1.2 c2 hI.2 (by omega)⟩),(show l.length - (j+1) < l.length - j by omega)⟩
   ·have c1:=of_decide_eq_false c1
    refine .exit<|.seq<|.seq<|.rs fun k29=>.mv Y<|.g (fun _ τ=>⟨_,.len (.no Y) Y (z:=(p.length:Int)) t62 Y Y Y (.ref _ _ _ _ _ Y) (map_len _ _) Y τ⟩)<|.bi Y<|.z ?_
    refine .cond (t:=(p.length:Int) != 1) Y (fun c5=>?_) (fun c5=>?_)
    ·have c5:=(by simpa using c5:¬ ((p.length:Int)=1))
     refine .seq<|.rs fun k30=>.as Y<|.z<|.ret ?_
     exact fin0 (.inr Y) (.one (svI (show (0)=(Expr.kindIn d l) by (rw [hz,kind_many (by omega) hI.2 (by omega)]))) .nil) (.dd .nil) Y
    ·have c5:=(by simpa using c5:(p.length:Int)=1)
     refine .skip<|.seq<|.rs fun k32=>.mv Y<|.g (fun _ τ=>⟨_,.indexAddr (.no Y) Y (0) t62 Y t2 Y Y Y (.ref _ _ _ _ _ Y) Y Y Y (map_get (by first | omega | (have h9:=hI; omega))) Y Y τ⟩)<|.ld t2 Y (.eptr _ _ _ _ _ _ _ _ _ Y (map_get (by first | omega | (have h9:=hI; omega)))) Y<|.as Y<|.z<|.ret ?_
     exact fin0 (.inr Y) (.one (svI (show (p.getD 0 default)=(Expr.kindIn d l) by (rw [hz,kind_one (by omega) (by omega) hI.2 (by omega)]))) .nil) (.dd .nil) Y
theorem c_takes (op:Int):Trip Tryz.prog 76 [(false,1)] ([.v (.int .i64 (op))]) [(false,1)] [.sl false 2 1 (List.map i64c (takesL op))] []:=by
 refine Trip.of Tryz.func76 (by decide) (c:=_) Y Y (Nat.le_of_ble_eq_true Y) Y (AftOk.nil _)<|.seq<|.rs fun k1=>.as Y<|.z<|.seq<|.block<|.seq ?_
 refine .reg (X:=Unit) (fun ζ=>.of [(0,.one (.d (.v (.int .i64 (op))))),(3,.one (.d (.v (.bool ((op == 6||op == 7))))))] []) [⟨[0],some 4,[],[]⟩,⟨[4],some 5,[],[]⟩,⟨[5],some 6,[],[]⟩,⟨[6,0],some 7,[],[]⟩,⟨[6,7],some 8,[],[]⟩,⟨[6,8],some 9,[],[]⟩,⟨[9],some 3,[],[]⟩] (fun k2=>?_) ?_
 ·skip
  refine .move (.no Y) Y Y Y Y<|.bin (.no Y) Y Y Y Y Y Y<|.moveB (.no Y) Y Y Y Y fun b3 g1_2=>?_
  cases b3
  ·skip
   refine .move (.on Y Y Y Y Y) Y Y Y Y<|.bin (.on Y Y Y Y Y) Y Y Y Y Y Y<|.pick (.no Y) Y Y Y Y Y<|.assign (.no Y) Y Y Y Y ?_
   exact .fin () (.of (.cons Y (.cons (svB (show (op == 7)=((op == 6||op == 7)) by first | (simp only [g1_2,Bool.true_or,Bool.false_or,Bool.true_and,Bool.false_and,Bool.not_true,Bool.not_false]; done) | (simp [g1_2]; done) | (exfalso; simp_all; done))) .nil)) .nil)
  ·skip
   refine .off Y Y Y Y Y Y Y<|.off Y Y Y Y Y Y Y<|.pick (.no Y) Y Y Y Y Y<|.assign (.no Y) Y Y Y Y ?_
   exact .fin () (.of (.cons Y (.cons (svB (show (true)=((op == 6||op == 7)) by first | (simp only [g1_2,Bool.true_or,Bool.false_or,Bool.true_and,Bool.false_and,Bool.not_true,Bool.not_false]; done) | (simp [g1_2]; done) | (exfalso; simp_all; done))) .nil)) .nil)
 intro _
 refine .cond (t:=(op == 6||op == 7)) Y (fun c0=>?_) (fun c0=>?_)
 ·have c0:=(oT eT eT) c0
  refine .seq<|.rs fun k4=>.g (fun _ τ=>⟨_,.buildSlice (.no Y) Y (els:=[[.v (.int .i64 (1))]]) t62 Y z2 Y Y Y Y Y Y Y Y (by simp [i2]) (.cons _ _ _ _ _ _ (.d _) .nil) Y Y Y τ⟩)<|.as Y<|.z<|.ret ?_
  exact fin1 (.inr Y) [[10]] [([10],(k4,k4,.row 2 1 ([[.v (.int .i64 (1))]])))] (.one Y .nil) (.cons (Gives.castE (f:=i64c) (L:=[1]) (L':=takesL op) (by (unfold takesL; rw [if_pos c0])) (Reads.ref (Frz.of_erase (erase_slo true 2 1 i64c i64c ([1]) i64c_e)) (.head _) (.head _)).gives) .nil) Y Y (.r Y)
 ·have c0:=(oF eF eF) c0
  refine .seq<|.rs fun k5=>.mv Y<|.c0 (c_within op 8 18) Y (.dd (.dd (.dd .nil))) (.own [13,0] .nil) Y<|.as Y<|.z ?_
  refine .cond (t:=inR op 8 18) Y (fun c1=>?_) (fun c1=>?_)
  ·have c1:=c1
   refine .seq<|.rs fun k6=>.g (fun _ τ=>⟨_,.buildSlice (.no Y) Y (els:=[[.v (.int .i64 (1))],[.v (.int .i64 (1))]]) t62 Y z2 Y Y Y Y Y Y Y Y (by simp [i2]) (.cons _ _ _ _ _ _ (.d _) (.cons _ _ _ _ _ _ (.d _) .nil)) Y Y Y τ⟩)<|.as Y<|.z<|.ret ?_
   exact fin1 (.inr Y) [[14]] [([14],(k6,k6,.row 2 1 ([[.v (.int .i64 (1))],[.v (.int .i64 (1))]])))] (.one Y .nil) (.cons (Gives.castE (f:=i64c) (L:=[1,1]) (L':=takesL op) (by (unfold takesL; rw [if_neg (by omega),if_pos c1])) (Reads.ref (Frz.of_erase (erase_slo true 2 1 i64c i64c ([1,1]) i64c_e)) (.head _) (.head _)).gives) .nil) Y Y (.r Y)
  ·have c1:=c1
   refine .seq<|.rs fun k7=>.mv Y<|.bi Y<|.as Y<|.z ?_
   refine .cond (t:=op == 19) Y (fun c2=>?_) (fun c2=>?_)
   ·have c2:=(by simpa using c2:op=19)
    refine .seq<|.rs fun k8=>.g (fun _ τ=>⟨_,.buildSlice (.no Y) Y (els:=[[.v (.int .i64 (2))]]) t62 Y z2 Y Y Y Y Y Y Y Y (by simp [i2]) (.cons _ _ _ _ _ _ (.d _) .nil) Y Y Y τ⟩)<|.as Y<|.z<|.ret ?_
    exact fin1 (.inr Y) [[18]] [([18],(k8,k8,.row 2 1 ([[.v (.int .i64 (2))]])))] (.one Y .nil) (.cons (Gives.castE (f:=i64c) (L:=[2]) (L':=takesL op) (by (unfold takesL; rw [if_neg (by omega),if_neg (by rw [c1]; decide),if_pos c2])) (Reads.ref (Frz.of_erase (erase_slo true 2 1 i64c i64c ([2]) i64c_e)) (.head _) (.head _)).gives) .nil) Y Y (.r Y)
   ·have c2:=(by simpa using c2:¬ (op=19))
    refine .seq ?_
    refine .reg (X:=Unit) (fun ζ=>.of [(19,.one (.d (.v (.bool ((op == 20||op == 21))))))] []) [⟨[0],some 20,[],[]⟩,⟨[20],some 21,[],[]⟩,⟨[21],some 22,[],[]⟩,⟨[22,0],some 23,[],[]⟩,⟨[22,23],some 24,[],[]⟩,⟨[22,24],some 25,[],[]⟩,⟨[25],some 19,[],[]⟩] (fun k9=>?_) ?_
    ·skip
     refine .move (.no Y) Y Y Y Y<|.bin (.no Y) Y Y Y Y Y Y<|.moveB (.no Y) Y Y Y Y fun b10 g7_2=>?_
     cases b10
     ·skip
      refine .move (.on Y Y Y Y Y) Y Y Y Y<|.bin (.on Y Y Y Y Y) Y Y Y Y Y Y<|.pick (.no Y) Y Y Y Y Y<|.assign (.no Y) Y Y Y Y ?_
      exact .fin () (.of (.cons (svB (show (op == 21)=((op == 20||op == 21)) by first | (simp only [g7_2,Bool.true_or,Bool.false_or,Bool.true_and,Bool.false_and,Bool.not_true,Bool.not_false]; done) | (simp [g7_2]; done) | (exfalso; simp_all; done))) .nil) .nil)
     ·skip
      refine .off Y Y Y Y Y Y Y<|.off Y Y Y Y Y Y Y<|.pick (.no Y) Y Y Y Y Y<|.assign (.no Y) Y Y Y Y ?_
      exact .fin () (.of (.cons (svB (show (true)=((op == 20||op == 21)) by first | (simp only [g7_2,Bool.true_or,Bool.false_or,Bool.true_and,Bool.false_and,Bool.not_true,Bool.not_false]; done) | (simp [g7_2]; done) | (exfalso; simp_all; done))) .nil) .nil)
    intro _
    refine .cond (t:=(op == 20||op == 21)) Y (fun c3=>?_) (fun c3=>?_)
    ·have c3:=(oT eT eT) c3
     refine .seq<|.rs fun k11=>.g (fun _ τ=>⟨_,.buildSlice (.no Y) Y (els:=[[.v (.int .i64 (2))],[.v (.int .i64 (2))]]) t62 Y z2 Y Y Y Y Y Y Y Y (by simp [i2]) (.cons _ _ _ _ _ _ (.d _) (.cons _ _ _ _ _ _ (.d _) .nil)) Y Y Y τ⟩)<|.as Y<|.z<|.ret ?_
     exact fin1 (.inr Y) [[26]] [([26],(k11,k11,.row 2 1 ([[.v (.int .i64 (2))],[.v (.int .i64 (2))]])))] (.one Y .nil) (.cons (Gives.castE (f:=i64c) (L:=[2,2]) (L':=takesL op) (by (unfold takesL; rw [if_neg (by omega),if_neg (by rw [c1]; decide),if_neg c2,if_pos c3])) (Reads.ref (Frz.of_erase (erase_slo true 2 1 i64c i64c ([2,2]) i64c_e)) (.head _) (.head _)).gives) .nil) Y Y (.r Y)
    ·have c3:=(oF eF eF) c3
     refine .skip<|.seq<|.rs fun k12=>.as Y<|.z<|.ret ?_
     exact fin0 (.inr Y) (.one Y .nil) (.cons (Gives.nil' (by (unfold takesL; rw [if_neg (by omega),if_neg (by rw [c1]; decide),if_neg c2,if_neg (by omega)]; rfl))) .nil) Y
theorem c_leaves1 (op:Int):Trip Tryz.prog 78 [(false,1)] ([.v (.int .i64 (op))]) [(false,1)] [.v (.int .i64 (leavesK op))] []:=by
 refine Trip.of Tryz.func78 (by decide) (c:=_) Y Y (Nat.le_of_ble_eq_true Y) Y (AftOk.nil _)<|.seq<|.rs fun k1=>.as Y<|.z<|.seq<|.seq ?_
 refine .reg (X:=Unit) (fun ζ=>.of [(8,.one (.d (.v (.bool ((inR op 3 5||decide (op≥13)))))))] []) [⟨[0],some 3,[],[]⟩,⟨[3],some 4,[],[]⟩,⟨[4],some 5,[],[]⟩,⟨[5,0],some 6,[],[]⟩,⟨[5,6],some 7,[],[]⟩,⟨[5,7],some 8,[],[]⟩] (fun k2=>?_) ?_
 ·skip
  refine .move (.no Y) Y Y Y Y<|.call (.no Y) Y [] [] (c_within op 3 5) Y Y Y Y Y (.dd (.dd (.dd .nil))) Y Y (fun h=>absurd Y h) (.own [4,0] .nil) (.nil) Y Y Y (by simp) Y Y Y<|.moveB (.no Y) Y Y Y Y fun b3 g1_2=>?_
  cases b3
  ·skip
   refine .move (.on Y Y Y Y Y) Y Y Y Y<|.bin (.on Y Y Y Y Y) Y Y Y Y Y Y<|.pick (.no Y) Y Y Y Y Y ?_
   exact .fin () (.of (.cons (svB (show (decide (op≥13))=((inR op 3 5||decide (op≥13))) by first | (simp only [g1_2,Bool.true_or,Bool.false_or,Bool.true_and,Bool.false_and,Bool.not_true,Bool.not_false]; done) | (simp [g1_2]; done) | (exfalso; simp_all; done))) .nil) .nil)
  ·skip
   refine .off Y Y Y Y Y Y Y<|.off Y Y Y Y Y Y Y<|.pick (.no Y) Y Y Y Y Y ?_
   exact .fin () (.of (.cons (svB (show (true)=((inR op 3 5||decide (op≥13))) by first | (simp only [g1_2,Bool.true_or,Bool.false_or,Bool.true_and,Bool.false_and,Bool.not_true,Bool.not_false]; done) | (simp [g1_2]; done) | (exfalso; simp_all; done))) .nil) .nil)
 intro _
 refine .cond (t:=(inR op 3 5||decide (op≥13))) Y (fun c0=>?_) (fun c0=>?_)
 ·have c0:=(oT id dT) c0
  refine .seq<|.rs fun k4=>.as Y<|.z<|.ret ?_
  exact fin0 (.inr Y) (.one (svI (show (2)=(leavesK op) by (unfold leavesK; rw [if_pos c0]))) .nil) (.dd .nil) Y
 ·have c0:=(oF id dF) c0
  refine .skip<|.seq<|.rs fun k6=>.as Y<|.z<|.ret ?_
  exact fin0 (.inr Y) (.one (svI (show (1)=(leavesK op) by (unfold leavesK; rw [if_neg (by rcases c0 with ⟨h1,h2⟩; rw [h1]; simp; omega)]))) .nil) (.dd .nil) Y
theorem c_isTok (d:Decl) (t:Tok):Trip Tryz.prog 75 [(true,3),(true,2)] (Decl.c40 d++Tok.c t) [(false,1)] [.v (.bool (Tok.ok d t))] []:=by
 refine Trip.of Tryz.func75 (by decide) (c:=_) Y Y (Nat.le_of_ble_eq_true Y) Y (AftOk.nil _)<|.sla (t:=0) 0 Y Y fun hs1l=>.sla (t:=0) 1 Y Y fun hs2l=>.sla (t:=0) 2 Y Y fun hs3l=>.seq<|.rs fun k4=>.g (fun _ τ=>⟨_,.box (.no Y) Y Y Y Y Y τ⟩)<|.g (fun _ τ=>⟨_,.box (.no Y) Y Y Y Y Y τ⟩)<|.as Y ?_
 refine .z<|.seq<|.seq<|.rs fun k5=>.fp t77 t2 Y<|.ld t2 Y (.ptr _ _ _ _ _ Y) Y<|.z<|.block<|.seq ?_
 refine .rs fun k6=>.bi Y<|.as Y<|.z ?_
 refine .cond (t:=t.op == 1) Y (fun c0=>?_) (fun c0=>?_)
 ·have c0:=(by simpa using c0:t.op=1)
  refine .seq<|.rs fun k7=>.fp t77 t2 Y<|.ld t2 Y (.ptr _ _ _ _ _ Y) Y<|.c0 (c_within t.n 0 999999999999999999) Y (.dd (.dd (.dd .nil))) (.own [11,0] .nil) Y<|.as Y<|.z<|.ret ?_
  exact fin0 (.inr Y) (.one (svB (show (inR t.n 0 999999999999999999)=(Tok.ok d t) by (unfold Tok.ok; rw [if_pos c0]))) .nil) (.dd .nil) Y
 ·have c0:=(by simpa using c0:¬ (t.op=1))
  refine .seq<|.rs fun k9=>.bi Y<|.as Y<|.z ?_
  refine .cond (t:=t.op == 2) Y (fun c1=>?_) (fun c1=>?_)
  ·have c1:=(by simpa using c1:t.op=2)
   refine .seq ?_
   refine .regD (X:=Unit) (by kernel_rfl) (fun ζ=>.of [(4,.one (.d (.v (.bool (inR t.n 0 ((d.vars.length:Int) - 1))))))] []) [⟨[3],some 14,[],[]⟩,⟨[14],some 15,[[3]],[]⟩,⟨[2],some 16,[],[]⟩,⟨[16],some 17,[[2]],[]⟩,⟨[17],some 18,[],[]⟩,⟨[18],some 19,[],[]⟩,⟨[15,19],some 20,[],[]⟩,⟨[20],some 4,[],[]⟩] (by kernel_rfl) (fun k10=>?_) ?_
   ·skip
    refine .fieldAddrP (.no Y) Y t77 Y Y t2 Y Y Y Y<|.load (.no Y) Y t2 Y Y (.ptr _ _ _ _ _ Y) Y Y Y Y<|.fieldAddrP (.no Y) Y t40 Y Y t22 Y Y Y Y<|.load (.no Y) Y t22 Y Y (.ptr _ _ _ _ _ Y) Y Y Y Y<|.call (.no Y) Y [] [] (c_sizeS d.vars) Y Y Y Y Y (.dd .nil) Y Y (fun h=>absurd Y h) (.own [18,0] .nil) (.nil) Y Y Y (by simp) Y Y Y<|.binN (.no Y) Y (show IntKind.wrap .i64 ((d.vars.length:Int) - 1)=(d.vars.length:Int) - 1 by (exact wrap_le (by omega) (by omega))) Y Y Y Y Y<|.call (.no Y) Y [] [] (c_within t.n 0 ((d.vars.length:Int) - 1)) Y Y Y Y Y (.dd (.dd (.dd .nil))) Y Y (fun h=>absurd Y h) (.own [20,0] .nil) (.nil) Y Y Y (by simp) Y Y Y<|.assign (.no Y) Y Y Y Y ?_
    exact .fin () (.of (.r Y) .nil)
   intro _
   refine .ret ?_
   exact fin0 (.inr Y) (.one (svB (show (inR t.n 0 ((d.vars.length:Int) - 1))=(Tok.ok d t) by (unfold Tok.ok; rw [if_neg c0,if_pos c1]))) .nil) (.dd .nil) Y
  ·have c1:=(by simpa using c1:¬ (t.op=2))
   refine .seq<|.rs fun k12=>.bi Y<|.as Y<|.z ?_
   refine .cond (t:=t.op == 3) Y (fun c2=>?_) (fun c2=>?_)
   ·have c2:=(by simpa using c2:t.op=3)
    refine .seq ?_
    refine .regD (X:=Unit) (by kernel_rfl) (fun ζ=>.of [(4,.one (.d (.v (.bool (inR t.n 0 ((d.flags.length:Int) - 1))))))] []) [⟨[3],some 23,[],[]⟩,⟨[23],some 24,[[3]],[]⟩,⟨[2],some 25,[],[]⟩,⟨[25],some 26,[[2]],[]⟩,⟨[26],some 27,[],[]⟩,⟨[27],some 28,[],[]⟩,⟨[24,28],some 29,[],[]⟩,⟨[29],some 4,[],[]⟩] (by kernel_rfl) (fun k13=>?_) ?_
    ·skip
     refine .fieldAddrP (.no Y) Y t77 Y Y t2 Y Y Y Y<|.load (.no Y) Y t2 Y Y (.ptr _ _ _ _ _ Y) Y Y Y Y<|.fieldAddrP (.no Y) Y t40 Y Y t22 Y Y Y Y<|.load (.no Y) Y t22 Y Y (.ptr _ _ _ _ _ Y) Y Y Y Y<|.call (.no Y) Y [] [] (c_sizeS d.flags) Y Y Y Y Y (.dd .nil) Y Y (fun h=>absurd Y h) (.own [27,0] .nil) (.nil) Y Y Y (by simp) Y Y Y<|.binN (.no Y) Y (show IntKind.wrap .i64 ((d.flags.length:Int) - 1)=(d.flags.length:Int) - 1 by (exact wrap_le (by omega) (by omega))) Y Y Y Y Y<|.call (.no Y) Y [] [] (c_within t.n 0 ((d.flags.length:Int) - 1)) Y Y Y Y Y (.dd (.dd (.dd .nil))) Y Y (fun h=>absurd Y h) (.own [29,0] .nil) (.nil) Y Y Y (by simp) Y Y Y<|.assign (.no Y) Y Y Y Y ?_
     exact .fin () (.of (.r Y) .nil)
    intro _
    refine .ret ?_
    exact fin0 (.inr Y) (.one (svB (show (inR t.n 0 ((d.flags.length:Int) - 1))=(Tok.ok d t) by (unfold Tok.ok; rw [if_neg c0,if_neg c1,if_pos c2]))) .nil) (.dd .nil) Y
   ·have c2:=(by simpa using c2:¬ (t.op=3))
    refine .seq<|.rs fun k15=>.bi Y<|.as Y<|.z ?_
    refine .cond (t:=t.op == 6) Y (fun c3=>?_) (fun c3=>?_)
    ·have c3:=(by simpa using c3:t.op=6)
     refine .seq ?_
     refine .regD (X:=Unit) (by kernel_rfl) (fun ζ=>.of [(4,.one (.d (.v (.bool (inR t.n 0 ((d.arrays.length:Int) - 1))))))] []) [⟨[3],some 32,[],[]⟩,⟨[32],some 33,[[3]],[]⟩,⟨[2],some 34,[],[]⟩,⟨[34],some 35,[[2]],[]⟩,⟨[35],some 36,[],[]⟩,⟨[36],some 37,[],[]⟩,⟨[33,37],some 38,[],[]⟩,⟨[38],some 4,[],[]⟩] (by kernel_rfl) (fun k16=>?_) ?_
     ·skip
      refine .fieldAddrP (.no Y) Y t77 Y Y t2 Y Y Y Y<|.load (.no Y) Y t2 Y Y (.ptr _ _ _ _ _ Y) Y Y Y Y<|.fieldAddrP (.no Y) Y t40 Y Y t38 Y Y Y Y<|.load (.no Y) Y t38 Y Y (.ptr _ _ _ _ _ Y) Y Y Y Y<|.call (.no Y) Y [] [] (c_sizeA d.arrays) Y Y Y Y Y (.dd .nil) Y Y (fun h=>absurd Y h) (.own [36,0] .nil) (.nil) Y Y Y (by simp) Y Y Y<|.binN (.no Y) Y (show IntKind.wrap .i64 ((d.arrays.length:Int) - 1)=(d.arrays.length:Int) - 1 by (exact wrap_le (by omega) (by omega))) Y Y Y Y Y<|.call (.no Y) Y [] [] (c_within t.n 0 ((d.arrays.length:Int) - 1)) Y Y Y Y Y (.dd (.dd (.dd .nil))) Y Y (fun h=>absurd Y h) (.own [38,0] .nil) (.nil) Y Y Y (by simp) Y Y Y<|.assign (.no Y) Y Y Y Y ?_
      exact .fin () (.of (.r Y) .nil)
     intro _
     refine .ret ?_
     exact fin0 (.inr Y) (.one (svB (show (inR t.n 0 ((d.arrays.length:Int) - 1))=(Tok.ok d t) by (unfold Tok.ok; rw [if_neg c0,if_neg c1,if_neg c2,if_pos c3]))) .nil) (.dd .nil) Y
    ·have c3:=(by simpa using c3:¬ (t.op=6))
     refine .skip<|.seq ?_
     refine .reg (X:=Unit) (fun ζ=>.of [(4,.one (.d (.v (.bool ((inR t.op 4 21&&t.n == 0))))))] []) [⟨[3],some 39,[],[]⟩,⟨[39],some 40,[[3]],[]⟩,⟨[40],some 41,[],[]⟩,⟨[41],some 42,[],[]⟩,⟨[42,3],some 43,[],[]⟩,⟨[42,43],some 44,[[3]],[]⟩,⟨[42,44],some 45,[],[]⟩,⟨[42,45],some 46,[],[]⟩,⟨[46],some 4,[],[]⟩] (fun k18=>?_) ?_
     ·skip
      refine .fieldAddrP (.no Y) Y t77 Y Y t2 Y Y Y Y<|.load (.no Y) Y t2 Y Y (.ptr _ _ _ _ _ Y) Y Y Y Y<|.call (.no Y) Y [] [] (c_within t.op 4 21) Y Y Y Y Y (.dd (.dd (.dd .nil))) Y Y (fun h=>absurd Y h) (.own [41,0] .nil) (.nil) Y Y Y (by simp) Y Y Y<|.moveB (.no Y) Y Y Y Y fun b19 g10_3=>?_
      cases b19
      ·skip
       refine .off Y Y Y Y Y Y Y<|.off Y Y Y Y Y Y Y<|.off Y Y Y Y Y Y Y<|.pick (.no Y) Y Y Y Y Y<|.assign (.no Y) Y Y Y Y ?_
       exact .fin () (.of (.cons (svB (show (false)=((inR t.op 4 21&&t.n == 0)) by first | (simp only [g10_3,Bool.true_or,Bool.false_or,Bool.true_and,Bool.false_and,Bool.not_true,Bool.not_false]; done) | (simp [g10_3]; done) | (exfalso; simp_all; done))) .nil) .nil)
      ·skip
       refine .fieldAddrP (.on Y Y Y Y Y) Y t77 Y Y t2 Y Y Y Y<|.load (.on Y Y Y Y Y) Y t2 Y Y (.ptr _ _ _ _ _ Y) Y Y Y Y<|.bin (.on Y Y Y Y Y) Y Y Y Y Y Y<|.pick (.no Y) Y Y Y Y Y<|.assign (.no Y) Y Y Y Y ?_
       exact .fin () (.of (.cons (svB (show (t.n == 0)=((inR t.op 4 21&&t.n == 0)) by first | (simp only [g10_3,Bool.true_or,Bool.false_or,Bool.true_and,Bool.false_and,Bool.not_true,Bool.not_false]; done) | (simp [g10_3]; done) | (exfalso; simp_all; done))) .nil) .nil)
     intro _
     refine .ret ?_
     exact fin0 (.inr Y) (.one (svB (show ((inR t.op 4 21&&t.n == 0))=(Tok.ok d t) by (unfold Tok.ok; rw [if_neg c0,if_neg c1,if_neg c2,if_neg c3]))) .nil) (.dd .nil) Y
theorem c_IndexFuncK (l:List Tok) (F_p:FuncId) (first_p:List (Bool × List D)) (caps_p:List D) (p:Tok→Bool) (h_p:∀ (x0:Tok),FnTrip Tryz.prog F_p first_p caps_p [(true,2)] (Tok.c x0) [(false,1)] [.v (.bool (p x0))]):Trip Tryz.prog 147 [(false,1),(false,1)] ([.sl false 77 2 (List.map Tok.c (l))]++[.fn F_p first_p caps_p]) [(false,1)] [.v (.int .i64 (idx p l))] []:=by
 refine Trip.of Tryz.func147 (by decide) (c:=_) Y Y (Nat.le_of_ble_eq_true Y) Y (AftOk.nil _)<|.sl (t:=0) Y fun hs1l=>.seq<|.rs fun k2=>.as Y<|.z<|.seq<|.seq<|.rs fun k3=>?_
 refine .mv Y<|.g (fun _ τ=>⟨_,.len (.no Y) Y (z:=(l.length:Int)) t42 Y Y Y (.d _ _) (map_len _ _) Y τ⟩)<|.mv Y<|.z<|.block ?_
 refine .loop (X:=Nat) (fun ζ=>.of [(0,.one (.d (.sl false 77 2 (List.map Tok.c (l))))),(1,.one (.d (.fn F_p first_p caps_p))),(7,.one (.d (.v (.int .i64 ((l.length:Int)))))),(8,.one (.d (.v (.int .i64 ((ζ:Int))))))] []) (fun ζ=>ζ≤l.length∧allTo ζ (fun i=>!p (l.getD i default))=true) (fun ζ=>l.length - ζ) ?_ ?_
 ·skip
  exact .here 0 (.of (.cons Y (.cons Y (.cons Y (.cons (svI (show (0)=((0:Int)) by first | rfl | omega | exact wrap_le (by omega) (by omega) | (rw [wrap_le (by omega) (by omega)]; omega))) .nil)))) .nil) (show 0≤l.length∧allTo 0 (fun i=>!p (l.getD i default))=true by exact ⟨by omega,rfl⟩)
 ·rintro j hI
  have hI:j≤l.length∧allTo j (fun i=>!p (l.getD i default))=true:=hI
  refine .seq<|.rs fun k4=>.bi Y<|.z<|.seq ?_
  refine .cond (t:=decide ((j:Int) < (l.length:Int))) Y (fun c0=>?_) (fun c0=>?_)
  ·have c0:=of_decide_eq_true c0
   refine .skip<|.seq<|.block<|.seq<|.rs fun k5=>.mv Y<|.as Y<|.z<|.seq ?_
   refine .rs fun k6=>.mv Y<|.mv Y<|.mv Y<|.g (fun _ τ=>⟨_,.indexAddr (.no Y) Y (j) t42 Y t77 Y Y Y (.d _ _) Y Y Y (map_get (by omega)) Y Y τ⟩)<|.lda t77 Y (.d _) Y<|.g (fun _ τ=>⟨_,.callF (.no Y) Y (ds:=[.v (.int .i64 ((l.getD j default).op)),.v (.int .i64 ((l.getD j default).n))]) (h_p (l.getD j default)) Y Y Y Y (.own [16,0] .nil) Y Y Y Y Y Y τ⟩)<|.z ?_
   refine .cond (t:=p (l.getD j default)) Y (fun c1=>?_) (fun c1=>?_)
   ·have c1:=c1
    refine .seq<|.rs fun k7=>.mv Y<|.as Y<|.z<|.ret ?_
    exact fin0 (.inr Y) (.one (svI (show ((j:Int))=(idx p l) by exact (idx_found (j:=j) (by omega) hI.2 (by simpa using c1)).symm)) .nil) (.dd .nil) Y
   ·have c1:=c1
    refine .skip<|.rs fun k9=>.bi Y<|.mv Y<|.z ?_
    exact .here (j+1) (.of (.cons Y (.cons Y (.cons Y (.cons (svI (show (IntKind.wrap .i64 ((j:Int)+1))=(((j+1):Int)) by first | rfl | omega | exact wrap_le (by omega) (by omega) | (rw [wrap_le (by omega) (by omega)]; omega))) .nil)))) .nil) ⟨(show (j+1)≤l.length∧allTo (j+1) (fun i=>!p (l.getD i default))=true by exact ⟨by omega,allTo_step hI.2 (by simpa using c1)⟩),(show l.length - (j+1) < l.length - j by omega)⟩
  ·have c0:=of_decide_eq_false c0
   refine .exit<|.seq<|.rs fun k10=>.as Y<|.z<|.ret ?_
   exact fin0 (.inr Y) (.one (svI (show (-1)=(idx p l) by exact (idx_none (by omega) hI.2).symm)) .nil) (.dd .nil) Y
theorem c_ContainsFuncK (l:List Tok) (F_p:FuncId) (first_p:List (Bool × List D)) (caps_p:List D) (p:Tok→Bool) (h_p:∀ (x0:Tok),FnTrip Tryz.prog F_p first_p caps_p [(true,2)] (Tok.c x0) [(false,1)] [.v (.bool (p x0))]):Trip Tryz.prog 105 [(false,1),(false,1)] ([.sl false 77 2 (List.map Tok.c (l))]++[.fn F_p first_p caps_p]) [(false,1)] [.v (.bool (l.any p))] []:=by
 refine Trip.of Tryz.func105 (by decide) (c:=_) Y Y (Nat.le_of_ble_eq_true Y) Y (AftOk.nil _)<|.sl (t:=0) Y fun hs1l=>.seq<|.rs fun k2=>.as Y<|.z<|.seq<|.rs fun k3=>.mv Y ?_
 refine .mv Y<|.c0 (c_IndexFuncK l F_p first_p caps_p p h_p) Y (.dd (.dd .nil)) (.own [7,0] .nil) Y<|.bi Y<|.as Y<|.z<|.ret ?_
 exact fin0 (.inr Y) (.one (svB (show (decide ((idx p l)≥0))=(l.any p) by exact idx_any _ _)) .nil) (.dd .nil) Y
theorem c_areAll1K (x:Tok) (F_p:FuncId) (first_p:List (Bool × List D)) (caps_p:List D) (p:Tok→Bool) (h_p:∀ (x0:Tok),FnTrip Tryz.prog F_p first_p caps_p [(true,2)] (Tok.c x0) [(false,1)] [.v (.bool (p x0))]):Trip Tryz.prog 106 [(true,2),(false,1)] (Tok.c x++[.pt false [.fn F_p first_p caps_p]]) [(false,1)] [.v (.bool (!p x))] []:=by
 refine Trip.of Tryz.func106 (by decide) (c:=_) Y Y (Nat.le_of_ble_eq_true Y) Y (AftOk.nil _)<|.seq<|.rs fun k1=>.g (fun _ τ=>⟨_,.box (.no Y) Y Y Y Y Y τ⟩)<|.as Y<|.z<|.seq<|.rs fun k2=>.ld t127 Y (.d _) Y ?_
 refine .lda t77 Y (.ptr _ _ _ _ _ Y) Y<|.g (fun _ τ=>⟨_,.callF (.no Y) Y (ds:=[.v (.int .i64 (x.op)),.v (.int .i64 (x.n))]) (h_p x) Y Y Y Y (.own [6,0] .nil) Y Y Y Y Y Y τ⟩)<|.un Y<|.as Y<|.z<|.ret ?_
 exact fin0 (.inr Y) (.one (svB (show (!(p x))=(!p x) by rfl)) .nil) (.dd .nil) Y
theorem c_areAllK (l:List Tok) (F_p:FuncId) (first_p:List (Bool × List D)) (caps_p:List D) (p:Tok→Bool) (h_p:∀ (x0:Tok),FnTrip Tryz.prog F_p first_p caps_p [(true,2)] (Tok.c x0) [(false,1)] [.v (.bool (p x0))]):Trip Tryz.prog 74 [(false,1),(false,1)] ([.sl false 77 2 (List.map Tok.c (l))]++[.fn F_p first_p caps_p]) [(false,1)] [.v (.bool (l.all p))] []:=by
 refine Trip.of Tryz.func74 (by decide) (c:=_) Y Y (Nat.le_of_ble_eq_true Y) Y (AftOk.nil _)<|.sl (t:=0) Y fun hs1l=>.seq<|.rs fun k2=>.g (fun _ τ=>⟨_,.box (.no Y) Y Y Y Y Y τ⟩)<|.as Y<|.z<|.seq<|.rs fun k3=>?_
 refine .mv Y<|.g (fun _ τ=>⟨_,.makeFunc (.no Y) Y Y Y Y Y τ⟩)<|.g (fun _ τ=>⟨_,.call (.no Y) Y [[3]] [([3],(k2,k2,.box [.d (.fn F_p first_p caps_p)]))] (c_ContainsFuncK l 106 [] [.pt false [.fn F_p first_p caps_p]] (fun x0=>!p x0) (fun x0=>c_areAll1K x0 F_p first_p caps_p p h_p)) Y Y Y Y Y (.dd (.cons (Reads.clo0 (.cons (Reads.ptr0 (.head _) (.head _) (.cons (Reads.d _) .nil)) .nil)).gives .nil)) Y Y (fun _=>(ownCons (Owned.v _) ownNil)) (.own [7,0] .nil) (.nil) Y Y Y (AllH.get (.r Y)) Y Y Y τ⟩)<|.un Y<|.as Y<|.z<|.ret ?_
 exact fin0 (.inr Y) (.one (svB (show (!(l.any (fun x0=>!p x0)))=(l.all p) by exact not_any _ _)) .nil) (.dd .nil) Y
theorem c_EqualN (a:List Int) (b:List Int):Trip Tryz.prog 77 [(false,1),(false,1)] ([.sl false 2 1 (List.map i64c (a))]++[.sl false 2 1 (List.map i64c (b))]) [(false,1)] [.v (.bool (all2 intEq a b))] []:=by
 refine Trip.of Tryz.func77 (by decide) (c:=_) Y Y (Nat.le_of_ble_eq_true Y) Y (AftOk.nil _)<|.sl (t:=0) Y fun hs1l=>.sl (t:=1) Y fun hs2l=>.seq<|.rs fun k3=>.as Y<|.z<|.seq<|.seq ?_
 refine .rs fun k4=>.mv Y<|.g (fun _ τ=>⟨_,.len (.no Y) Y (z:=(a.length:Int)) t62 Y Y Y (.d _ _) (map_len _ _) Y τ⟩)<|.mv Y<|.g (fun _ τ=>⟨_,.len (.no Y) Y (z:=(b.length:Int)) t62 Y Y Y (.d _ _) (map_len _ _) Y τ⟩)<|.bi Y<|.z ?_
 refine .cond (t:=(a.length:Int) != (b.length:Int)) Y (fun c0=>?_) (fun c0=>?_)
 ·have c0:=(by simpa using c0:¬ ((a.length:Int)=(b.length:Int)))
  refine .seq<|.rs fun k5=>.as Y<|.z<|.ret ?_
  exact fin0 (.inr Y) (.one (svB (show (false)=(all2 intEq a b) by exact (all2_ne _ (by simpa using c0)).symm)) .nil) (.dd .nil) Y
 ·have c0:=(by simpa using c0:(a.length:Int)=(b.length:Int))
  refine .skip<|.seq<|.seq<|.rs fun k7=>.mv Y<|.g (fun _ τ=>⟨_,.len (.no Y) Y (z:=(a.length:Int)) t62 Y Y Y (.d _ _) (map_len _ _) Y τ⟩)<|.mv Y<|.z<|.block ?_
  refine .loop (X:=Nat) (fun ζ=>.of [(0,.one (.d (.sl false 2 1 (List.map i64c (a))))),(1,.one (.d (.sl false 2 1 (List.map i64c (b))))),(12,.one (.d (.v (.int .i64 ((a.length:Int)))))),(13,.one (.d (.v (.int .i64 ((ζ:Int))))))] []) (fun ζ=>ζ≤a.length∧a.length=b.length∧allTo ζ (fun i=>intEq (a.getD i default) (b.getD i default))=true) (fun ζ=>a.length - ζ) ?_ ?_
  ·skip
   exact .here 0 (.of (.cons Y (.cons Y (.cons Y (.cons (svI (show (0)=((0:Int)) by first | rfl | omega | exact wrap_le (by omega) (by omega) | (rw [wrap_le (by omega) (by omega)]; omega))) .nil)))) .nil) (show 0≤a.length∧a.length=b.length∧allTo 0 (fun i=>intEq (a.getD i default) (b.getD i default))=true by exact ⟨by omega,by (first | omega | (simp at c0; omega)),rfl⟩)
  ·rintro j hI
   have hI:j≤a.length∧a.length=b.length∧allTo j (fun i=>intEq (a.getD i default) (b.getD i default))=true:=hI
   refine .seq<|.rs fun k8=>.bi Y<|.z<|.seq ?_
   refine .cond (t:=decide ((j:Int) < (a.length:Int))) Y (fun c1=>?_) (fun c1=>?_)
   ·have c1:=of_decide_eq_true c1
    refine .skip<|.seq<|.block<|.seq<|.rs fun k9=>.mv Y<|.as Y<|.z<|.seq ?_
    refine .regD (X:=Unit) (by kernel_rfl) (fun ζ=>.of [(0,.one (.d (.sl false 2 1 (List.map i64c (a))))),(1,.one (.d (.sl false 2 1 (List.map i64c (b))))),(12,.one (.d (.v (.int .i64 ((a.length:Int)))))),(13,.one (.d (.v (.int .i64 ((j:Int)))))),(24,.one (.d (.v (.bool ((a.getD j default) != (b.getD j default))))))] []) [⟨[0],some 16,[],[]⟩,⟨[5],some 17,[],[]⟩,⟨[16,17],some 18,[],[]⟩,⟨[18],some 19,[],[]⟩,⟨[1],some 20,[],[]⟩,⟨[5],some 21,[],[]⟩,⟨[20,21],some 22,[],[]⟩,⟨[22],some 23,[],[]⟩,⟨[19,23],some 24,[],[]⟩] (by kernel_rfl) (fun k10=>?_) ?_
    ·skip
     refine .move (.no Y) Y Y Y Y<|.move (.no Y) Y Y Y Y<|.indexAddr (.no Y) Y (j) t62 Y t2 Y Y Y (.d _ _) Y Y Y (map_get (by omega)) Y Y<|.load (.no Y) Y t2 Y Y (.d _) Y Y Y Y<|.move (.no Y) Y Y Y Y<|.move (.no Y) Y Y Y Y<|.indexAddr (.no Y) Y (j) t62 Y t2 Y Y Y (.d _ _) Y Y Y (map_get (by omega)) Y Y<|.load (.no Y) Y t2 Y Y (.d _) Y Y Y Y<|.bin (.no Y) Y Y Y Y Y Y ?_
     exact .fin () (.of (.r Y) .nil)
    intro _
    refine .cond (t:=(a.getD j default) != (b.getD j default)) Y (fun c2=>?_) (fun c2=>?_)
    ·have c2:=(by simpa using c2:¬ ((a.getD j default)=(b.getD j default)))
     refine .seq<|.rs fun k11=>.as Y<|.z<|.ret ?_
     exact fin0 (.inr Y) (.one (svB (show (false)=(all2 intEq a b) by exact (all2_fail _ (j:=j) (by omega) (by simpa [intEq] using c2)).symm)) .nil) (.dd .nil) Y
    ·have c2:=(by simpa using c2:(a.getD j default)=(b.getD j default))
     refine .skip<|.rs fun k13=>.bi Y<|.mv Y<|.z ?_
     exact .here (j+1) (.of (.cons Y (.cons Y (.cons Y (.cons (svI (show (IntKind.wrap .i64 ((j:Int)+1))=(((j+1):Int)) by first | rfl | omega | exact wrap_le (by omega) (by omega) | (rw [wrap_le (by omega) (by omega)]; omega))) .nil)))) .nil) ⟨(show (j+1)≤a.length∧a.length=b.length∧allTo (j+1) (fun i=>intEq (a.getD i default) (b.getD i default))=true by exact ⟨by omega,by omega,allTo_step hI.2.2 (by simpa [intEq] using c2)⟩),(show a.length - (j+1) < a.length - j by omega)⟩
   ·have c1:=of_decide_eq_false c1
    refine .exit<|.seq<|.rs fun k14=>.as Y<|.z<|.ret ?_
    exact fin0 (.inr Y) (.one (svB (show (true)=(all2 intEq a b) by (have hj:j=a.length:=(by omega); subst hj; exact (all2_done _ hI.2.1 hI.2.2).symm))) .nil) (.dd .nil) Y
end Go.Proofs

namespace Go.Proofs
open Go Go.Proofs Go.Ev

theorem c_kindOf (d:Decl) (l:List Tok):Trip Tryz.prog 35 [(true,3),(false,1)] (Decl.c40 d++[.sl false 77 2 (List.map Tok.c (l))]) [(false,1)] [.v (.int .i64 (Expr.kind d l))] []:=by
 refine Trip.of Tryz.func35 (by decide) (c:=_) Y Y (Nat.le_of_ble_eq_true Y) Y (AftOk.nil _)<|.sla (t:=0) 0 Y Y fun hs1l=>.sla (t:=0) 1 Y Y fun hs2l=>.sla (t:=0) 2 Y Y fun hs3l=>.sl (t:=1) Y fun hs4l=>.seq<|.rs fun k5=>.g (fun _ τ=>⟨_,.box (.no Y) Y Y Y Y Y τ⟩)<|.as Y ?_
 refine .z<|.seq<|.seq ?_
 refine .reg (X:=Unit) (fun ζ=>.of [(1,.one (.d (.sl false 77 2 (List.map Tok.c (l))))),(19,.one (.d (.v (.bool ((decide ((l.length:Int) > 40)||!(l.all (fun x0=>Tok.ok d x0))))))))] []) [⟨[1],some 10,[],[]⟩,⟨[10],some 11,[],[]⟩,⟨[11],some 12,[],[]⟩,⟨[12],some 13,[],[]⟩,⟨[13,1],some 14,[],[]⟩,⟨[13,2],some 15,[[2]],[]⟩,⟨[13,15],some 16,[],[]⟩,⟨[13,14,16],some 17,[],[]⟩,⟨[13,17],some 18,[],[]⟩,⟨[13,18],some 19,[],[]⟩] (fun k6=>?_) ?_
 ·skip
  refine .move (.no Y) Y Y Y Y<|.len (.no Y) Y (z:=(l.length:Int)) t42 Y Y Y (.d _ _) (map_len _ _) Y<|.bin (.no Y) Y Y Y Y Y Y<|.moveB (.no Y) Y Y Y Y fun b7 g1_3=>?_
  cases b7
  ·skip
   refine .move (.on Y Y Y Y Y) Y Y Y Y<|.load (.on Y Y Y Y Y) Y t40 Y Y (.ptr _ _ _ _ _ Y) Y Y Y Y<|.makeFunc (.on Y Y Y Y Y) Y Y Y Y Y<|.call (.on Y Y Y Y Y) Y [] [] (c_areAllK l 75 [(true,[.sl false 9 1 (List.map strc (d.vars)),.sl false 9 1 (List.map strc (d.flags)),.sl false 120 2 (List.map Arr.c (d.arrays))])] [] (fun x0=>Tok.ok d x0) (fun x0=>c_isTok d x0)) Y Y Y Y Y (.dd (.cons (Reads.clo1 (.cons (Reads.d _) (.cons (Reads.d _) (.cons (Reads.d _) .nil))) (.nil)).gives .nil)) Y Y (fun h=>absurd Y h) (.own [17,0] .nil) (.nil) Y Y Y (by simp) Y Y Y<|.un (.on Y Y Y Y Y) Y Y Y Y Y<|.pick (.no Y) Y Y Y Y Y ?_
   exact .fin () (.of (.cons Y (.cons (svB (show (!(l.all (fun x0=>Tok.ok d x0)))=((decide ((l.length:Int) > 40)||!(l.all (fun x0=>Tok.ok d x0)))) by first | (simp only [g1_3,Bool.true_or,Bool.false_or,Bool.true_and,Bool.false_and,Bool.not_true,Bool.not_false]; done) | (simp [g1_3]; done) | (exfalso; simp_all; done))) .nil)) .nil)
  ·skip
   refine .off Y Y Y Y Y Y Y<|.off Y Y Y Y Y Y Y<|.off Y Y Y Y Y Y Y<|.off Y Y Y Y Y Y Y<|.off Y Y Y Y Y Y Y<|.pick (.no Y) Y Y Y Y Y ?_
   exact .fin () (.of (.cons Y (.cons (svB (show (true)=((decide ((l.length:Int) > 40)||!(l.all (fun x0=>Tok.ok d x0)))) by first | (simp only [g1_3,Bool.true_or,Bool.false_or,Bool.true_and,Bool.false_and,Bool.not_true,Bool.not_false]; done) | (simp [g1_3]; done) | (exfalso; simp_all; done))) .nil)) .nil)
 intro _
 refine .cond (t:=(decide ((l.length:Int) > 40)||!(l.all (fun x0=>Tok.ok d x0)))) Y (fun c0=>?_) (fun c0=>?_)
 ·have c0:=(oT dT (nT id)) c0
  refine .seq<|.rs fun k8=>.as Y<|.z<|.ret ?_
  exact fin0 (.inr Y) (.one (svI (show (0)=(Expr.kind d l) by (rcases c0 with h | h; exact (kind_long (by omega)).symm; exact (kind_bad h).symm))) .nil) (.dd .nil) Y
 ·have c0:=(oF dF (nF id)) c0
  have ha:∀ i,i < l.length→Tok.ok d (l.getD i default)=true:=fun i hi=>List.all_eq_true.1 c0.2 _ (getD_mem hi)
  refine .skip<|.seq<|.rs fun k10=>.as Y<|.z<|.seq<|.seq<|.rs fun k11=>.mv Y ?_
  refine .g (fun _ τ=>⟨_,.len (.no Y) Y (z:=(l.length:Int)) t42 Y Y Y (.d _ _) (map_len _ _) Y τ⟩)<|.mv Y<|.z<|.block ?_
  refine .loop (X:=Nat × List Int × Nat × Nat) (fun ζ=>.of [(5,.one (.ref [51] (ζ.2.2.1))),(20,.one (.d (.sl false 77 2 (List.map Tok.c (l))))),(21,.one (.d (.v (.int .i64 ((l.length:Int)))))),(22,.one (.d (.v (.int .i64 ((ζ.1:Int))))))] [([51],(ζ.2.2.1,ζ.2.2.2,.row 2 1 (List.map i64c (ζ.2.1))))]) (fun ζ=>ζ.1≤l.length∧kdS d l ζ.1=some ζ.2.1) (fun ζ=>l.length - ζ.1) ?_ ?_
  ·skip
   refine .nilRow 5 [51] 2 1 Y fun k14=>?_
   exact .here (0,[],k14,k14) (.of (.cons Y (.cons Y (.cons Y (.cons (svI (show (0)=((0:Int)) by first | rfl | omega | exact wrap_le (by omega) (by omega) | (rw [wrap_le (by omega) (by omega)]; omega))) .nil)))) (.cons (rowE (show []=List.map i64c ([]) by first | with_reducible rfl | rfl)) .nil)) (show 0≤l.length∧kdS d l 0=some [] by exact ⟨by omega,rfl⟩)
  ·rintro ⟨j,p,q12,q13⟩ hI
   have hI:j≤l.length∧kdS d l j=some p:=hI
   have hp9:=kdS_len hI.2
   have ht9:=takesL_len (l.getD j default).op
   dsimp only
   refine .seq<|.rs fun k15=>.bi Y<|.z<|.seq ?_
   refine .cond (t:=decide ((j:Int) < (l.length:Int))) Y (fun c1=>?_) (fun c1=>?_)
   ·have c1:=of_decide_eq_true c1
    refine .skip<|.seq<|.block<|.seq<|.rs fun k16=>.g (fun _ τ=>⟨_,.indexAddr (.no Y) Y (j) t42 Y t77 Y Y Y (.d _ _) Y Y Y (map_get (by omega)) Y Y τ⟩)<|.lda t77 Y (.d _) Y<|.g (fun _ τ=>⟨_,.alloc (.no Y) Y z77 Y Y Y τ⟩)<|.g (fun _ τ=>⟨_,.store (.no Y) Y t77 Y Y Y Y Y Y Y Y Y τ⟩) ?_
    refine .z<|.seq<|.rs fun k17=>.fp t77 t2 Y<|.ld t2 Y (.ptr _ _ _ _ _ Y) Y<|.c0 (c_takes ((l.getD j default).op)) Y (.dd .nil) (.own [28,0] .nil) Y<|.as Y<|.z<|.seq ?_
    refine .rs fun k18=>.mv Y<|.g (fun _ τ=>⟨_,.len (.no Y) Y (z:=(p.length:Int)) t62 Y Y Y (.ref _ _ _ _ _ Y) (map_len _ _) Y τ⟩)<|.mv Y<|.g (fun _ τ=>⟨_,.len (.no Y) Y (z:=((takesL ((l.getD j default).op)).length:Int)) t62 Y Y Y (.d _ _) (map_len _ _) Y τ⟩)<|.g (fun _ τ=>⟨_,.binN (.no Y) Y (show IntKind.wrap .i64 ((p.length:Int) - ((takesL ((l.getD j default).op)).length:Int))=(p.length:Int) - ((takesL (l.getD j default).op).length:Int) by (exact wrap_le (by omega) (by omega))) Y Y Y Y Y τ⟩)<|.as Y<|.z<|.seq ?_
    refine .seq ?_
    refine .reg (X:=Unit) (fun ζ=>.of [(5,.one (.ref [51] (q12))),(7,.one (.ptr [7] (k16+1+1) 0)),(9,.one (.d (.v (.int .i64 ((p.length:Int) - ((takesL (l.getD j default).op).length:Int)))))),(20,.one (.d (.sl false 77 2 (List.map Tok.c (l))))),(21,.one (.d (.v (.int .i64 ((l.length:Int)))))),(22,.one (.d (.v (.int .i64 ((j:Int)))))),(43,.one (.d (.v (.bool ((decide (((p.length:Int) - ((takesL (l.getD j default).op).length:Int)) < 0)||!(all2 intEq (p.drop (((p.length:Int) - ((takesL (l.getD j default).op).length:Int)).toNat)) (takesL ((l.getD j default).op)))))))))] [([7],(k16+1+1,k16+1+1+1,.box [.d (.v (.int .i64 ((l.getD j default).op))),.d (.v (.int .i64 ((l.getD j default).n)))])),([51],(q12,q13,.row 2 1 (List.map i64c (p))))]) [⟨[9],some 34,[],[]⟩,⟨[34],some 35,[],[]⟩,⟨[35],some 36,[],[]⟩,⟨[36,5],some 37,[],[]⟩,⟨[36,9],some 38,[],[]⟩,⟨[36,37,38],some 39,[[51]],[]⟩,⟨[36,8],some 40,[],[]⟩,⟨[36,39,40],some 41,[[51]],[]⟩,⟨[36,41],some 42,[],[]⟩,⟨[36,42],some 43,[],[]⟩] (fun k19=>?_) ?_
    ·skip
     refine .move (.no Y) Y Y Y Y<|.bin (.no Y) Y Y Y Y Y Y<|.moveB (.no Y) Y Y Y Y fun b20 g9_2=>?_
     cases b20
     ·skip
      refine .move (.on Y Y Y Y Y) Y Y Y Y<|.move (.on Y Y Y Y Y) Y Y Y Y<|.slice (.on Y Y Y Y Y) Y (lv:=((p.length:Int) - ((takesL (l.getD j default).op).length:Int)).toNat) (hv:=(List.map i64c (p)).length) (m:=q13) t62 Y t2 Y Y (.ref _ _ _ _ _ Y) Y (by intro _ _ h; cases h; exact ⟨_,.head _⟩) (by exact ⟨_,nat_iv (a:=(p.length:Int) - ((takesL (l.getD j default).op).length:Int)) (by (first | omega | (have h9:=of_decide_eq_false g9_2; omega)))⟩) (by exact rfl) (le_map (by (first | omega | (have h9:=of_decide_eq_false g9_2; omega)))) (Nat.le_refl _) (cut_ref (L:=p) i64c_e) Y<|.move (.on Y Y Y Y Y) Y Y Y Y ?_
      refine .call (.on Y Y Y Y Y) Y [[51]] [([51],(q12,q13,.row 2 1 (List.map i64c (p))))] (c_EqualN (p.drop (((p.length:Int) - ((takesL (l.getD j default).op).length:Int)).toNat)) (takesL ((l.getD j default).op))) Y Y Y Y Y (.cons (Reads.view (.head _) (.head _)).gives (.dd .nil)) Y Y (fun _=>(ownCons (Owned.v _) ownNil)) (.own [41,0] .nil) (.nil) Y Y Y (AllH.get (.r Y)) Y Y Y<|.un (.on Y Y Y Y Y) Y Y Y Y Y<|.pick (.no Y) Y Y Y Y Y ?_
      exact .fin () (.of (.cons Y (.cons Y (.cons Y (.cons Y (.cons Y (.cons Y (.cons (svB (show (!(all2 intEq (p.drop (((p.length:Int) - ((takesL (l.getD j default).op).length:Int)).toNat)) (takesL ((l.getD j default).op))))=((decide (((p.length:Int) - ((takesL (l.getD j default).op).length:Int)) < 0)||!(all2 intEq (p.drop (((p.length:Int) - ((takesL (l.getD j default).op).length:Int)).toNat)) (takesL ((l.getD j default).op))))) by first | (simp only [g9_2,Bool.true_or,Bool.false_or,Bool.true_and,Bool.false_and,Bool.not_true,Bool.not_false]; done) | (simp [g9_2]; done) | (exfalso; simp_all; done))) .nil))))))) (.r Y))
     ·skip
      refine .off Y Y Y Y Y Y Y<|.off Y Y Y Y Y Y Y<|.off Y Y Y Y Y Y Y<|.off Y Y Y Y Y Y Y<|.off Y Y Y Y Y Y Y<|.off Y Y Y Y Y Y Y<|.pick (.no Y) Y Y Y Y Y ?_
      exact .fin () (.of (.cons Y (.cons Y (.cons Y (.cons Y (.cons Y (.cons Y (.cons (svB (show (true)=((decide (((p.length:Int) - ((takesL (l.getD j default).op).length:Int)) < 0)||!(all2 intEq (p.drop (((p.length:Int) - ((takesL (l.getD j default).op).length:Int)).toNat)) (takesL ((l.getD j default).op))))) by first | (simp only [g9_2,Bool.true_or,Bool.false_or,Bool.true_and,Bool.false_and,Bool.not_true,Bool.not_false]; done) | (simp [g9_2]; done) | (exfalso; simp_all; done))) .nil))))))) (.r Y))
    intro _
    refine .cond (t:=(decide (((p.length:Int) - ((takesL (l.getD j default).op).length:Int)) < 0)||!(all2 intEq (p.drop (((p.length:Int) - ((takesL (l.getD j default).op).length:Int)).toNat)) (takesL ((l.getD j default).op))))) Y (fun c2=>?_) (fun c2=>?_)
    ·have c2:=(oT dT (nT id)) c2
     have hb:kdS d l (j+1)=none:=kd_noI hI.2 (ha j (by omega)) c2
     refine .seq<|.rs fun k21=>.as Y<|.z<|.ret ?_
     exact fin0 (.inr Y) (.one (svI (show (0)=(Expr.kind d l) by (rw [kind_none (by omega) hb]))) .nil) (.dd .nil) Y
    ·have c2:=(oF dF (nF id)) c2
     refine .skip ?_
     refine .regD (X:=Nat) (by kernel_rfl) (fun ζ=>.of [(5,.one (.ref [51] (ζ))),(20,.one (.d (.sl false 77 2 (List.map Tok.c (l))))),(21,.one (.d (.v (.int .i64 ((l.length:Int)))))),(22,.one (.d (.v (.int .i64 ((j:Int))))))] [([51],(ζ,ζ,.row 2 1 (List.map i64c (p.take (((p.length:Int) - ((takesL (l.getD j default).op).length:Int)).toNat)++[leavesK ((l.getD j default).op)]))))]) [⟨[5],some 44,[],[]⟩,⟨[9],some 45,[],[]⟩,⟨[44,45],some 46,[[51]],[[51]]⟩,⟨[7],some 47,[],[]⟩,⟨[47],some 48,[[7]],[]⟩,⟨[48],some 49,[],[]⟩,⟨[49],some 50,[],[[50]]⟩,⟨[46,50],some 51,[[51],[50]],[[50],[51]]⟩,⟨[51],some 5,[],[]⟩] (by kernel_rfl) (fun k23=>?_) ?_
     ·skip
      refine .move (.no Y) Y Y Y Y<|.move (.no Y) Y Y Y Y<|.trim (.no Y) Y (hv:=((p.length:Int) - ((takesL (l.getD j default).op).length:Int)).toNat) (els':=List.map i64c (p.take (((p.length:Int) - ((takesL (l.getD j default).op).length:Int)).toNat))) t62 Y t2 Y Y Y Y (by exact ⟨_,nat_iv (a:=(p.length:Int) - ((takesL (l.getD j default).op).length:Int)) (by (first | omega | (have h9:=of_decide_eq_false g9_2; omega)))⟩) (le_map (by (first | omega | (have h9:=of_decide_eq_false g9_2; omega)))) (by rw [List.map_take]) Y<|.fieldAddrP (.no Y) Y t77 Y Y t2 Y Y Y Y<|.load (.no Y) Y t2 Y Y (.ptr _ _ _ _ _ Y) Y Y Y Y ?_
      refine .call (.no Y) Y [] [] (c_leaves1 ((l.getD j default).op)) Y Y Y Y Y (.dd .nil) Y Y (fun h=>absurd Y h) (.own [49,0] .nil) (.nil) Y Y Y (by simp) Y Y Y<|.buildSlice (.no Y) Y (els:=[[.v (.int .i64 (leavesK ((l.getD j default).op)))]]) t62 Y z2 Y Y Y Y Y Y Y Y (by simp [i2]) (.cons _ _ _ _ _ _ (.d _) .nil) Y Y Y<|.append (.no Y) Y (l3:=List.map i64c (p.take (((p.length:Int) - ((takesL (l.getD j default).op).length:Int)).toNat)++[leavesK ((l.getD j default).op)])) t62 Y z2 Y Y Y Y Y Y Y Y (.ref _ _ _ _ Y) (.take _ _ _ _ _ Y) Y (by first | (simp [i2]; omega) | (simp [i3]; omega)) (map_snoc _ _ _) Y Y<|.assign (.no Y) Y Y Y Y ?_
      exact .fin (k23+1+1+1+1+1+1+1) (.of (.r Y) (.r Y))
     intro g24
     refine .rs fun k25=>.bi Y<|.mv Y<|.z ?_
     exact .here ((j+1),(p.take ((p.length:Int) - ((takesL (l.getD j default).op).length:Int)).toNat++[leavesK (l.getD j default).op]),g24,g24) (.of (.cons Y (.cons Y (.cons Y (.cons (svI (show (IntKind.wrap .i64 ((j:Int)+1))=(((j+1):Int)) by first | rfl | omega | exact wrap_le (by omega) (by omega) | (rw [wrap_le (by omega) (by omega)]; omega))) .nil)))) (.cons (rowE (show List.map i64c (p.take (((p.length:Int) - ((takesL (l.getD j default).op).length:Int)).toNat)++[leavesK ((l.getD j default).op)])=List.map i64c ((p.take ((p.length:Int) - ((takesL (l.getD j default).op).length:Int)).toNat++[leavesK (l.getD j default).op])) by first | with_reducible rfl | rfl)) .nil)) ⟨(show (j+1)≤l.length∧kdS d l (j+1)=some (p.take ((p.length:Int) - ((takesL (l.getD j default).op).length:Int)).toNat++[leavesK (l.getD j default).op]) by exact ⟨by omega,kd_goI hI.2 (ha j (by omega)) c2⟩),(show l.length - (j+1) < l.length - j by omega)⟩
   ·have c1:=of_decide_eq_false c1
    refine .exit<|.seq<|.seq<|.rs fun k26=>.mv Y<|.g (fun _ τ=>⟨_,.len (.no Y) Y (z:=(p.length:Int)) t62 Y Y Y (.ref _ _ _ _ _ Y) (map_len _ _) Y τ⟩)<|.bi Y<|.z ?_
    refine .cond (t:=(p.length:Int) != 1) Y (fun c3=>?_) (fun c3=>?_)
    ·have c3:=(by simpa using c3:¬ ((p.length:Int)=1))
     refine .seq<|.rs fun k27=>.as Y<|.z<|.ret ?_
     exact fin0 (.inr Y) (.one (svI (show (0)=(Expr.kind d l) by (rw [kind_many (by omega) hI.2 (by omega)]))) .nil) (.dd .nil) Y
    ·have c3:=(by simpa using c3:(p.length:Int)=1)
     refine .skip<|.seq<|.rs fun k29=>.mv Y<|.g (fun _ τ=>⟨_,.indexAddr (.no Y) Y (0) t62 Y t2 Y Y Y (.ref _ _ _ _ _ Y) Y Y Y (map_get (by omega)) Y Y τ⟩)<|.ld t2 Y (.eptr _ _ _ _ _ _ _ _ _ Y (map_get (by omega))) Y<|.as Y<|.z<|.ret ?_
     exact fin0 (.inr Y) (.one (svI (show (p.getD 0 default)=(Expr.kind d l) by (rw [kind_one (by omega) (by omega) hI.2 (by omega)]))) .nil) (.dd .nil) Y
end Go.Proofs

namespace Go.Proofs
open Go Go.Proofs Go.Ev

def i144:TI:=⟨.int .u64,1,8,[.int .u64 0]⟩
theorem t144:TyOk Tryz.prog 144 i144:=⟨Tryz.underlying144,by kernel_rfl⟩
theorem z144:ZOk Tryz.prog 144 i144:=⟨t144,rfl⟩
theorem c_sNumAdd (a:Int) (b:Int):Trip Tryz.prog 160 [(false,1),(false,1)] ([.v (.int .i64 (a))]++[.v (.int .i64 (b))]) [(false,1),(false,1)] [.v (.int .i64 (addV a b)),.v (.int .i64 (addO a b))] []:=by
 refine Trip.of Tryz.func160 (by decide) (c:=_) Y Y (Nat.le_of_ble_eq_true Y) Y (AftOk.nil _)<|.seq<|.rs fun k1=>.as Y<|.as Y<|.z<|.seq<|.block<|.seq ?_
 refine .reg (X:=Unit) (fun ζ=>.of [(0,.one (.d (.v (.int .i64 (a))))),(1,.one (.d (.v (.int .i64 (b))))),(6,.one (.d (.v (.bool ((decide (b > 0)&&decide (a > (IntKind.wrap .i64 (9223372036854775807 - b)))))))))] []) [⟨[1],some 7,[],[]⟩,⟨[7],some 8,[],[]⟩,⟨[8],some 9,[],[]⟩,⟨[9,0],some 10,[],[]⟩,⟨[9,1],some 11,[],[]⟩,⟨[9,11],some 12,[],[]⟩,⟨[9,10,12],some 13,[],[]⟩,⟨[9,13],some 14,[],[]⟩,⟨[14],some 6,[],[]⟩] (fun k2=>?_) ?_
 ·skip
  refine .move (.no Y) Y Y Y Y<|.bin (.no Y) Y Y Y Y Y Y<|.moveB (.no Y) Y Y Y Y fun b3 g1_2=>?_
  cases b3
  ·skip
   refine .off Y Y Y Y Y Y Y<|.off Y Y Y Y Y Y Y<|.off Y Y Y Y Y Y Y<|.off Y Y Y Y Y Y Y<|.pick (.no Y) Y Y Y Y Y<|.assign (.no Y) Y Y Y Y ?_
   exact .fin () (.of (.cons Y (.cons Y (.cons (svB (show (false)=((decide (b > 0)&&decide (a > (IntKind.wrap .i64 (9223372036854775807 - b))))) by first | (simp only [g1_2,Bool.true_or,Bool.false_or,Bool.true_and,Bool.false_and,Bool.not_true,Bool.not_false]; done) | (simp [g1_2]; done) | (exfalso; simp_all; done))) .nil))) .nil)
  ·skip
   refine .move (.on Y Y Y Y Y) Y Y Y Y<|.move (.on Y Y Y Y Y) Y Y Y Y<|.bin (.on Y Y Y Y Y) Y Y Y Y Y Y<|.bin (.on Y Y Y Y Y) Y Y Y Y Y Y<|.pick (.no Y) Y Y Y Y Y<|.assign (.no Y) Y Y Y Y ?_
   exact .fin () (.of (.cons Y (.cons Y (.cons (svB (show (decide (a > (IntKind.wrap .i64 (9223372036854775807 - b))))=((decide (b > 0)&&decide (a > (IntKind.wrap .i64 (9223372036854775807 - b))))) by first | (simp only [g1_2,Bool.true_or,Bool.false_or,Bool.true_and,Bool.false_and,Bool.not_true,Bool.not_false]; done) | (simp [g1_2]; done) | (exfalso; simp_all; done))) .nil))) .nil)
 intro _
 refine .cond (t:=(decide (b > 0)&&decide (a > (IntKind.wrap .i64 (9223372036854775807 - b))))) Y (fun c0=>?_) (fun c0=>?_)
 ·have c0:=(aT dT dT) c0
  refine .seq<|.rs fun k4=>.as Y<|.as Y<|.z<|.ret ?_
  exact fin0 (.inr Y) (.one (svI (show (0)=(addV a b) by (first | exact (add_1 c0).1.symm | exact (add_1 c0).2.symm))) (.one (svI (show (1)=(addO a b) by (first | exact (add_1 c0).1.symm | exact (add_1 c0).2.symm))) .nil)) (.dd (.dd .nil)) Y
 ·have c0:=(aF dF dF) c0
  refine .seq ?_
  refine .reg (X:=Unit) (fun ζ=>.of [(0,.one (.d (.v (.int .i64 (a))))),(1,.one (.d (.v (.int .i64 (b))))),(15,.one (.d (.v (.bool ((decide (b < 0)&&decide (a < (IntKind.wrap .i64 ((-9223372036854775808) - b)))))))))] []) [⟨[1],some 16,[],[]⟩,⟨[16],some 17,[],[]⟩,⟨[17],some 18,[],[]⟩,⟨[18,0],some 19,[],[]⟩,⟨[18,1],some 20,[],[]⟩,⟨[18,20],some 21,[],[]⟩,⟨[18,19,21],some 22,[],[]⟩,⟨[18,22],some 23,[],[]⟩,⟨[23],some 15,[],[]⟩] (fun k7=>?_) ?_
  ·skip
   refine .move (.no Y) Y Y Y Y<|.bin (.no Y) Y Y Y Y Y Y<|.moveB (.no Y) Y Y Y Y fun b8 g3_2=>?_
   cases b8
   ·skip
    refine .off Y Y Y Y Y Y Y<|.off Y Y Y Y Y Y Y<|.off Y Y Y Y Y Y Y<|.off Y Y Y Y Y Y Y<|.pick (.no Y) Y Y Y Y Y<|.assign (.no Y) Y Y Y Y ?_
    exact .fin () (.of (.cons Y (.cons Y (.cons (svB (show (false)=((decide (b < 0)&&decide (a < (IntKind.wrap .i64 ((-9223372036854775808) - b))))) by first | (simp only [g3_2,Bool.true_or,Bool.false_or,Bool.true_and,Bool.false_and,Bool.not_true,Bool.not_false]; done) | (simp [g3_2]; done) | (exfalso; simp_all; done))) .nil))) .nil)
   ·skip
    refine .move (.on Y Y Y Y Y) Y Y Y Y<|.move (.on Y Y Y Y Y) Y Y Y Y<|.bin (.on Y Y Y Y Y) Y Y Y Y Y Y<|.bin (.on Y Y Y Y Y) Y Y Y Y Y Y<|.pick (.no Y) Y Y Y Y Y<|.assign (.no Y) Y Y Y Y ?_
    exact .fin () (.of (.cons Y (.cons Y (.cons (svB (show (decide (a < (IntKind.wrap .i64 ((-9223372036854775808) - b))))=((decide (b < 0)&&decide (a < (IntKind.wrap .i64 ((-9223372036854775808) - b))))) by first | (simp only [g3_2,Bool.true_or,Bool.false_or,Bool.true_and,Bool.false_and,Bool.not_true,Bool.not_false]; done) | (simp [g3_2]; done) | (exfalso; simp_all; done))) .nil))) .nil)
  intro _
  refine .cond (t:=(decide (b < 0)&&decide (a < (IntKind.wrap .i64 ((-9223372036854775808) - b))))) Y (fun c1=>?_) (fun c1=>?_)
  ·have c1:=(aT dT dT) c1
   refine .seq<|.rs fun k9=>.as Y<|.as Y<|.z<|.ret ?_
   exact fin0 (.inr Y) (.one (svI (show (0)=(addV a b) by (first | exact (add_2 c0 c1).1.symm | exact (add_2 c0 c1).2.symm))) (.one (svI (show (-1)=(addO a b) by (first | exact (add_2 c0 c1).1.symm | exact (add_2 c0 c1).2.symm))) .nil)) (.dd (.dd .nil)) Y
  ·have c1:=(aF dF dF) c1
   refine .skip<|.seq<|.rs fun k12=>.mv Y<|.mv Y<|.bi Y<|.as Y<|.as Y<|.z ?_
   refine .ret ?_
   exact fin0 (.inr Y) (.one (svI (show (IntKind.wrap .i64 (a+b))=(addV a b) by (first | exact (add_3 c0 c1).1.symm | exact (add_3 c0 c1).2.symm))) (.one (svI (show (0)=(addO a b) by (first | exact (add_3 c0 c1).1.symm | exact (add_3 c0 c1).2.symm))) .nil)) (.dd (.dd .nil)) Y
theorem c_side (is:Bool):Trip Tryz.prog 167 [(false,1)] ([.v (.bool (is))]) [(false,1)] [.v (.int .i64 (bif is then -1 else 1))] []:=by
 refine Trip.of Tryz.func167 (by decide) (c:=_) Y Y (Nat.le_of_ble_eq_true Y) Y (AftOk.nil _)<|.seq<|.rs fun k1=>.as Y<|.z<|.seq<|.seq<|.rs fun k2=>.mv Y ?_
 refine .z ?_
 refine .cond (t:=is) Y (fun c0=>?_) (fun c0=>?_)
 ·have c0:=c0
  refine .seq<|.rs fun k3=>.as Y<|.z<|.ret ?_
  exact fin0 (.inr Y) (.one (svI (show (-1)=(bif is then -1 else 1) by (rw [c0]; rfl))) .nil) (.dd .nil) Y
 ·have c0:=c0
  refine .skip<|.seq<|.rs fun k5=>.as Y<|.z<|.ret ?_
  exact fin0 (.inr Y) (.one (svI (show (1)=(bif is then -1 else 1) by (rw [c0]; rfl))) .nil) (.dd .nil) Y
theorem c_NumAdd (a:Int) (b:Int):Trip Tryz.prog 130 [(false,1),(false,1)] ([.v (.int .i64 (a))]++[.v (.int .i64 (b))]) [(false,1),(false,1)] [.v (.int .i64 (addV a b)),.v (.int .i64 (addO a b))] []:=by
 refine Trip.of Tryz.func130 (by decide) (c:=_) Y Y (Nat.le_of_ble_eq_true Y) Y (AftOk.nil _)<|.seq<|.rs fun k1=>.as Y<|.as Y<|.z<|.seq<|.seq ?_
 refine .reg (X:=Unit) (fun ζ=>.of [(0,.one (.d (.v (.int .i64 (a))))),(1,.one (.d (.v (.int .i64 (b))))),(23,.one (.d (.v (.bool (((decide (b > 0)&&decide (a > (IntKind.wrap .i64 (9223372036854775807 - b))))||(decide (b < 0)&&decide (a < (IntKind.wrap .i64 ((-9223372036854775808) - b))))))))))] []) [⟨[1],some 6,[],[]⟩,⟨[6],some 7,[],[]⟩,⟨[7],some 8,[],[]⟩,⟨[8,0],some 9,[],[]⟩,⟨[8,1],some 10,[],[]⟩,⟨[8,10],some 11,[],[]⟩,⟨[8,9,11],some 12,[],[]⟩,⟨[8,12],some 13,[],[]⟩,⟨[13],some 14,[],[]⟩,⟨[14,1],some 15,[],[]⟩,⟨[14,15],some 16,[],[]⟩,⟨[14,16],some 17,[],[]⟩,⟨[17,0],some 18,[],[]⟩,⟨[17,1],some 19,[],[]⟩,⟨[17,19],some 20,[],[]⟩,⟨[17,18,20],some 21,[],[]⟩,⟨[14,17,21],some 22,[],[]⟩,⟨[14,22],some 23,[],[]⟩] (fun k2=>?_) ?_
 ·skip
  refine .move (.no Y) Y Y Y Y<|.bin (.no Y) Y Y Y Y Y Y<|.moveB (.no Y) Y Y Y Y fun b3 g1_2=>?_
  cases b3
  ·skip
   refine .off Y Y Y Y Y Y Y<|.off Y Y Y Y Y Y Y<|.off Y Y Y Y Y Y Y<|.off Y Y Y Y Y Y Y<|.pick (.no Y) Y Y Y Y Y<|.move (.no Y) Y Y Y Y<|.move (.on Y Y Y Y Y) Y Y Y Y<|.bin (.on Y Y Y Y Y) Y Y Y Y Y Y<|.moveB (.on Y Y Y Y Y) Y Y Y Y fun b4 g1_11=>?_
   cases b4
   ·skip
    refine .off Y Y Y Y Y Y Y<|.off Y Y Y Y Y Y Y<|.off Y Y Y Y Y Y Y<|.off Y Y Y Y Y Y Y<|.pick (.on Y Y Y Y Y) Y Y Y Y Y<|.pick (.no Y) Y Y Y Y Y ?_
    exact .fin () (.of (.cons Y (.cons Y (.cons (svB (show (false)=(((decide (b > 0)&&decide (a > (IntKind.wrap .i64 (9223372036854775807 - b))))||(decide (b < 0)&&decide (a < (IntKind.wrap .i64 ((-9223372036854775808) - b)))))) by first | (simp only [g1_2,g1_11,Bool.true_or,Bool.false_or,Bool.true_and,Bool.false_and,Bool.not_true,Bool.not_false]; done) | (simp [g1_2,g1_11]; done) | (exfalso; simp_all; done))) .nil))) .nil)
   ·skip
    refine .move (.on Y Y Y Y Y) Y Y Y Y<|.move (.on Y Y Y Y Y) Y Y Y Y<|.bin (.on Y Y Y Y Y) Y Y Y Y Y Y<|.bin (.on Y Y Y Y Y) Y Y Y Y Y Y<|.pick (.on Y Y Y Y Y) Y Y Y Y Y<|.pick (.no Y) Y Y Y Y Y ?_
    exact .fin () (.of (.cons Y (.cons Y (.cons (svB (show (decide (a < (IntKind.wrap .i64 ((-9223372036854775808) - b))))=(((decide (b > 0)&&decide (a > (IntKind.wrap .i64 (9223372036854775807 - b))))||(decide (b < 0)&&decide (a < (IntKind.wrap .i64 ((-9223372036854775808) - b)))))) by first | (simp only [g1_2,g1_11,Bool.true_or,Bool.false_or,Bool.true_and,Bool.false_and,Bool.not_true,Bool.not_false]; done) | (simp [g1_2,g1_11]; done) | (exfalso; simp_all; done))) .nil))) .nil)
  ·skip
   refine .move (.on Y Y Y Y Y) Y Y Y Y<|.move (.on Y Y Y Y Y) Y Y Y Y<|.bin (.on Y Y Y Y Y) Y Y Y Y Y Y<|.bin (.on Y Y Y Y Y) Y Y Y Y Y Y<|.pick (.no Y) Y Y Y Y Y<|.moveB (.no Y) Y Y Y Y fun b5 g1_8=>?_
   cases b5
   ·skip
    refine .move (.on Y Y Y Y Y) Y Y Y Y<|.bin (.on Y Y Y Y Y) Y Y Y Y Y Y<|.moveB (.on Y Y Y Y Y) Y Y Y Y fun b6 g1_11=>?_
    cases b6
    ·skip
     refine .off Y Y Y Y Y Y Y<|.off Y Y Y Y Y Y Y<|.off Y Y Y Y Y Y Y<|.off Y Y Y Y Y Y Y<|.pick (.on Y Y Y Y Y) Y Y Y Y Y<|.pick (.no Y) Y Y Y Y Y ?_
     exact .fin () (.of (.cons Y (.cons Y (.cons (svB (show (false)=(((decide (b > 0)&&decide (a > (IntKind.wrap .i64 (9223372036854775807 - b))))||(decide (b < 0)&&decide (a < (IntKind.wrap .i64 ((-9223372036854775808) - b)))))) by first | (simp only [g1_2,g1_8,g1_11,Bool.true_or,Bool.false_or,Bool.true_and,Bool.false_and,Bool.not_true,Bool.not_false]; done) | (simp [g1_2,g1_8,g1_11]; done) | (exfalso; simp_all; done))) .nil))) .nil)
    ·skip
     refine .move (.on Y Y Y Y Y) Y Y Y Y<|.move (.on Y Y Y Y Y) Y Y Y Y<|.bin (.on Y Y Y Y Y) Y Y Y Y Y Y<|.bin (.on Y Y Y Y Y) Y Y Y Y Y Y<|.pick (.on Y Y Y Y Y) Y Y Y Y Y<|.pick (.no Y) Y Y Y Y Y ?_
     exact .fin () (.of (.cons Y (.cons Y (.cons (svB (show (decide (a < (IntKind.wrap .i64 ((-9223372036854775808) - b))))=(((decide (b > 0)&&decide (a > (IntKind.wrap .i64 (9223372036854775807 - b))))||(decide (b < 0)&&decide (a < (IntKind.wrap .i64 ((-9223372036854775808) - b)))))) by first | (simp only [g1_2,g1_8,g1_11,Bool.true_or,Bool.false_or,Bool.true_and,Bool.false_and,Bool.not_true,Bool.not_false]; done) | (simp [g1_2,g1_8,g1_11]; done) | (exfalso; simp_all; done))) .nil))) .nil)
   ·skip
    refine .off Y Y Y Y Y Y Y<|.off Y Y Y Y Y Y Y<|.off Y Y Y Y Y Y Y<|.off' rfl Y Y Y Y Y<|.off' rfl Y Y Y Y Y<|.off' rfl Y Y Y Y Y<|.off' rfl Y Y Y Y Y<|.off Y Y Y Y Y Y Y<|.pick (.no Y) Y Y Y Y Y ?_
    exact .fin () (.of (.cons Y (.cons Y (.cons (svB (show (true)=(((decide (b > 0)&&decide (a > (IntKind.wrap .i64 (9223372036854775807 - b))))||(decide (b < 0)&&decide (a < (IntKind.wrap .i64 ((-9223372036854775808) - b)))))) by first | (simp only [g1_2,g1_8,Bool.true_or,Bool.false_or,Bool.true_and,Bool.false_and,Bool.not_true,Bool.not_false]; done) | (simp [g1_2,g1_8]; done) | (exfalso; simp_all; done))) .nil))) .nil)
 intro _
 refine .cond (t:=((decide (b > 0)&&decide (a > (IntKind.wrap .i64 (9223372036854775807 - b))))||(decide (b < 0)&&decide (a < (IntKind.wrap .i64 ((-9223372036854775808) - b)))))) Y (fun c0=>?_) (fun c0=>?_)
 ·have c0:=(oT (aT dT dT) (aT dT dT)) c0
  refine .seq<|.rs fun k7=>.mv Y<|.bi Y<|.c0 (c_side (decide (b < 0))) Y (.dd .nil) (.own [26,0] .nil) Y<|.as Y<|.as Y<|.z<|.ret ?_
  exact fin0 (.inr Y) (.one (svI (show (0)=(addV a b) by (rcases c0 with h | h; (first | exact (add_1 h).1.symm | (rw [(add_1 h).2,decide_eq_false (by omega)]; rfl)); (first | exact (add_2 (by omega) h).1.symm | (rw [(add_2 (by omega) h).2,decide_eq_true h.1]; rfl))))) (.one (svI (show (bif (decide (b < 0)) then -1 else 1)=(addO a b) by (rcases c0 with h | h; (first | exact (add_1 h).1.symm | (rw [(add_1 h).2,decide_eq_false (by omega)]; rfl)); (first | exact (add_2 (by omega) h).1.symm | (rw [(add_2 (by omega) h).2,decide_eq_true h.1]; rfl))))) .nil)) (.dd (.dd .nil)) Y
 ·have c0:=(oF (aF dF dF) (aF dF dF)) c0
  refine .skip<|.seq<|.rs fun k10=>.mv Y<|.mv Y<|.bi Y<|.as Y<|.as Y<|.z ?_
  refine .ret ?_
  exact fin0 (.inr Y) (.one (svI (show (IntKind.wrap .i64 (a+b))=(addV a b) by (first | exact (add_3 c0.1 c0.2).1.symm | exact (add_3 c0.1 c0.2).2.symm))) (.one (svI (show (0)=(addO a b) by (first | exact (add_3 c0.1 c0.2).1.symm | exact (add_3 c0.1 c0.2).2.symm))) .nil)) (.dd (.dd .nil)) Y
theorem c_sNumSub (a:Int) (b:Int) (ha:Fit a) (hb:Fit b):Trip Tryz.prog 181 [(false,1),(false,1)] ([.v (.int .i64 (a))]++[.v (.int .i64 (b))]) [(false,1),(false,1)] [.v (.int .i64 (fitN (a - b))),.v (.int .i64 (fitO (a - b)))] []:=by
 refine Trip.of Tryz.func181 (by decide) (c:=_) Y Y (Nat.le_of_ble_eq_true Y) Y (AftOk.nil _)<|.seq<|.rs fun k1=>.as Y<|.as Y<|.z<|.seq<|.block<|.seq ?_
 refine .reg (X:=Unit) (fun ζ=>.of [(0,.one (.d (.v (.int .i64 (a))))),(1,.one (.d (.v (.int .i64 (b))))),(6,.one (.d (.v (.bool ((decide (b < 0)&&decide (a > (IntKind.wrap .i64 (9223372036854775807+b)))))))))] []) [⟨[1],some 7,[],[]⟩,⟨[7],some 8,[],[]⟩,⟨[8],some 9,[],[]⟩,⟨[9,0],some 10,[],[]⟩,⟨[9,1],some 11,[],[]⟩,⟨[9,11],some 12,[],[]⟩,⟨[9,10,12],some 13,[],[]⟩,⟨[9,13],some 14,[],[]⟩,⟨[14],some 6,[],[]⟩] (fun k2=>?_) ?_
 ·skip
  refine .move (.no Y) Y Y Y Y<|.bin (.no Y) Y Y Y Y Y Y<|.moveB (.no Y) Y Y Y Y fun b3 g1_2=>?_
  cases b3
  ·skip
   refine .off Y Y Y Y Y Y Y<|.off Y Y Y Y Y Y Y<|.off Y Y Y Y Y Y Y<|.off Y Y Y Y Y Y Y<|.pick (.no Y) Y Y Y Y Y<|.assign (.no Y) Y Y Y Y ?_
   exact .fin () (.of (.cons Y (.cons Y (.cons (svB (show (false)=((decide (b < 0)&&decide (a > (IntKind.wrap .i64 (9223372036854775807+b))))) by first | (simp only [g1_2,Bool.true_or,Bool.false_or,Bool.true_and,Bool.false_and,Bool.not_true,Bool.not_false]; done) | (simp [g1_2]; done) | (exfalso; simp_all; done))) .nil))) .nil)
  ·skip
   refine .move (.on Y Y Y Y Y) Y Y Y Y<|.move (.on Y Y Y Y Y) Y Y Y Y<|.bin (.on Y Y Y Y Y) Y Y Y Y Y Y<|.bin (.on Y Y Y Y Y) Y Y Y Y Y Y<|.pick (.no Y) Y Y Y Y Y<|.assign (.no Y) Y Y Y Y ?_
   exact .fin () (.of (.cons Y (.cons Y (.cons (svB (show (decide (a > (IntKind.wrap .i64 (9223372036854775807+b))))=((decide (b < 0)&&decide (a > (IntKind.wrap .i64 (9223372036854775807+b))))) by first | (simp only [g1_2,Bool.true_or,Bool.false_or,Bool.true_and,Bool.false_and,Bool.not_true,Bool.not_false]; done) | (simp [g1_2]; done) | (exfalso; simp_all; done))) .nil))) .nil)
 intro _
 refine .cond (t:=(decide (b < 0)&&decide (a > (IntKind.wrap .i64 (9223372036854775807+b))))) Y (fun c0=>?_) (fun c0=>?_)
 ·have c0:=(aT dT dT) c0
  refine .seq<|.rs fun k4=>.as Y<|.as Y<|.z<|.ret ?_
  exact fin0 (.inr Y) (.one (svI (show (0)=(fitN (a - b)) by (first | exact (sub_1 ha hb c0).1.symm | exact (sub_1 ha hb c0).2.symm))) (.one (svI (show (1)=(fitO (a - b)) by (first | exact (sub_1 ha hb c0).1.symm | exact (sub_1 ha hb c0).2.symm))) .nil)) (.dd (.dd .nil)) Y
 ·have c0:=(aF dF dF) c0
  refine .seq ?_
  refine .reg (X:=Unit) (fun ζ=>.of [(0,.one (.d (.v (.int .i64 (a))))),(1,.one (.d (.v (.int .i64 (b))))),(15,.one (.d (.v (.bool ((decide (b > 0)&&decide (a < (IntKind.wrap .i64 ((-9223372036854775808)+b)))))))))] []) [⟨[1],some 16,[],[]⟩,⟨[16],some 17,[],[]⟩,⟨[17],some 18,[],[]⟩,⟨[18,0],some 19,[],[]⟩,⟨[18,1],some 20,[],[]⟩,⟨[18,20],some 21,[],[]⟩,⟨[18,19,21],some 22,[],[]⟩,⟨[18,22],some 23,[],[]⟩,⟨[23],some 15,[],[]⟩] (fun k7=>?_) ?_
  ·skip
   refine .move (.no Y) Y Y Y Y<|.bin (.no Y) Y Y Y Y Y Y<|.moveB (.no Y) Y Y Y Y fun b8 g3_2=>?_
   cases b8
   ·skip
    refine .off Y Y Y Y Y Y Y<|.off Y Y Y Y Y Y Y<|.off Y Y Y Y Y Y Y<|.off Y Y Y Y Y Y Y<|.pick (.no Y) Y Y Y Y Y<|.assign (.no Y) Y Y Y Y ?_
    exact .fin () (.of (.cons Y (.cons Y (.cons (svB (show (false)=((decide (b > 0)&&decide (a < (IntKind.wrap .i64 ((-9223372036854775808)+b))))) by first | (simp only [g3_2,Bool.true_or,Bool.false_or,Bool.true_and,Bool.false_and,Bool.not_true,Bool.not_false]; done) | (simp [g3_2]; done) | (exfalso; simp_all; done))) .nil))) .nil)
   ·skip
    refine .move (.on Y Y Y Y Y) Y Y Y Y<|.move (.on Y Y Y Y Y) Y Y Y Y<|.bin (.on Y Y Y Y Y) Y Y Y Y Y Y<|.bin (.on Y Y Y Y Y) Y Y Y Y Y Y<|.pick (.no Y) Y Y Y Y Y<|.assign (.no Y) Y Y Y Y ?_
    exact .fin () (.of (.cons Y (.cons Y (.cons (svB (show (decide (a < (IntKind.wrap .i64 ((-9223372036854775808)+b))))=((decide (b > 0)&&decide (a < (IntKind.wrap .i64 ((-9223372036854775808)+b))))) by first | (simp only [g3_2,Bool.true_or,Bool.false_or,Bool.true_and,Bool.false_and,Bool.not_true,Bool.not_false]; done) | (simp [g3_2]; done) | (exfalso; simp_all; done))) .nil))) .nil)
  intro _
  refine .cond (t:=(decide (b > 0)&&decide (a < (IntKind.wrap .i64 ((-9223372036854775808)+b))))) Y (fun c1=>?_) (fun c1=>?_)
  ·have c1:=(aT dT dT) c1
   refine .seq<|.rs fun k9=>.as Y<|.as Y<|.z<|.ret ?_
   exact fin0 (.inr Y) (.one (svI (show (0)=(fitN (a - b)) by (first | exact (sub_2 ha hb c1).1.symm | exact (sub_2 ha hb c1).2.symm))) (.one (svI (show (-1)=(fitO (a - b)) by (first | exact (sub_2 ha hb c1).1.symm | exact (sub_2 ha hb c1).2.symm))) .nil)) (.dd (.dd .nil)) Y
  ·have c1:=(aF dF dF) c1
   refine .skip<|.seq<|.rs fun k12=>.mv Y<|.mv Y<|.bi Y<|.as Y<|.as Y<|.z ?_
   refine .ret ?_
   exact fin0 (.inr Y) (.one (svI (show (IntKind.wrap .i64 (a - b))=(fitN (a - b)) by (first | exact (sub_3 ha hb c0 c1).1.symm | exact (sub_3 ha hb c0 c1).2.symm))) (.one (svI (show (0)=(fitO (a - b)) by (first | exact (sub_3 ha hb c0 c1).1.symm | exact (sub_3 ha hb c0 c1).2.symm))) .nil)) (.dd (.dd .nil)) Y
theorem c_NumSub (a:Int) (b:Int) (ha:Fit a) (hb:Fit b):Trip Tryz.prog 129 [(false,1),(false,1)] ([.v (.int .i64 (a))]++[.v (.int .i64 (b))]) [(false,1),(false,1)] [.v (.int .i64 (fitN (a - b))),.v (.int .i64 (fitO (a - b)))] []:=by
 refine Trip.of Tryz.func129 (by decide) (c:=_) Y Y (Nat.le_of_ble_eq_true Y) Y (AftOk.nil _)<|.seq<|.rs fun k1=>.as Y<|.as Y<|.z<|.seq<|.seq ?_
 refine .reg (X:=Unit) (fun ζ=>.of [(0,.one (.d (.v (.int .i64 (a))))),(1,.one (.d (.v (.int .i64 (b))))),(23,.one (.d (.v (.bool (((decide (b < 0)&&decide (a > (IntKind.wrap .i64 (9223372036854775807+b))))||(decide (b > 0)&&decide (a < (IntKind.wrap .i64 ((-9223372036854775808)+b))))))))))] []) [⟨[1],some 6,[],[]⟩,⟨[6],some 7,[],[]⟩,⟨[7],some 8,[],[]⟩,⟨[8,0],some 9,[],[]⟩,⟨[8,1],some 10,[],[]⟩,⟨[8,10],some 11,[],[]⟩,⟨[8,9,11],some 12,[],[]⟩,⟨[8,12],some 13,[],[]⟩,⟨[13],some 14,[],[]⟩,⟨[14,1],some 15,[],[]⟩,⟨[14,15],some 16,[],[]⟩,⟨[14,16],some 17,[],[]⟩,⟨[17,0],some 18,[],[]⟩,⟨[17,1],some 19,[],[]⟩,⟨[17,19],some 20,[],[]⟩,⟨[17,18,20],some 21,[],[]⟩,⟨[14,17,21],some 22,[],[]⟩,⟨[14,22],some 23,[],[]⟩] (fun k2=>?_) ?_
 ·skip
  refine .move (.no Y) Y Y Y Y<|.bin (.no Y) Y Y Y Y Y Y<|.moveB (.no Y) Y Y Y Y fun b3 g1_2=>?_
  cases b3
  ·skip
   refine .off Y Y Y Y Y Y Y<|.off Y Y Y Y Y Y Y<|.off Y Y Y Y Y Y Y<|.off Y Y Y Y Y Y Y<|.pick (.no Y) Y Y Y Y Y<|.move (.no Y) Y Y Y Y<|.move (.on Y Y Y Y Y) Y Y Y Y<|.bin (.on Y Y Y Y Y) Y Y Y Y Y Y<|.moveB (.on Y Y Y Y Y) Y Y Y Y fun b4 g1_11=>?_
   cases b4
   ·skip
    refine .off Y Y Y Y Y Y Y<|.off Y Y Y Y Y Y Y<|.off Y Y Y Y Y Y Y<|.off Y Y Y Y Y Y Y<|.pick (.on Y Y Y Y Y) Y Y Y Y Y<|.pick (.no Y) Y Y Y Y Y ?_
    exact .fin () (.of (.cons Y (.cons Y (.cons (svB (show (false)=(((decide (b < 0)&&decide (a > (IntKind.wrap .i64 (9223372036854775807+b))))||(decide (b > 0)&&decide (a < (IntKind.wrap .i64 ((-9223372036854775808)+b)))))) by first | (simp only [g1_2,g1_11,Bool.true_or,Bool.false_or,Bool.true_and,Bool.false_and,Bool.not_true,Bool.not_false]; done) | (simp [g1_2,g1_11]; done) | (exfalso; simp_all; done))) .nil))) .nil)
   ·skip
    refine .move (.on Y Y Y Y Y) Y Y Y Y<|.move (.on Y Y Y Y Y) Y Y Y Y<|.bin (.on Y Y Y Y Y) Y Y Y Y Y Y<|.bin (.on Y Y Y Y Y) Y Y Y Y Y Y<|.pick (.on Y Y Y Y Y) Y Y Y Y Y<|.pick (.no Y) Y Y Y Y Y ?_
    exact .fin () (.of (.cons Y (.cons Y (.cons (svB (show (decide (a < (IntKind.wrap .i64 ((-9223372036854775808)+b))))=(((decide (b < 0)&&decide (a > (IntKind.wrap .i64 (9223372036854775807+b))))||(decide (b > 0)&&decide (a < (IntKind.wrap .i64 ((-9223372036854775808)+b)))))) by first | (simp only [g1_2,g1_11,Bool.true_or,Bool.false_or,Bool.true_and,Bool.false_and,Bool.not_true,Bool.not_false]; done) | (simp [g1_2,g1_11]; done) | (exfalso; simp_all; done))) .nil))) .nil)
  ·skip
   refine .move (.on Y Y Y Y Y) Y Y Y Y<|.move (.on Y Y Y Y Y) Y Y Y Y<|.bin (.on Y Y Y Y Y) Y Y Y Y Y Y<|.bin (.on Y Y Y Y Y) Y Y Y Y Y Y<|.pick (.no Y) Y Y Y Y Y<|.moveB (.no Y) Y Y Y Y fun b5 g1_8=>?_
   cases b5
   ·skip
    refine .move (.on Y Y Y Y Y) Y Y Y Y<|.bin (.on Y Y Y Y Y) Y Y Y Y Y Y<|.moveB (.on Y Y Y Y Y) Y Y Y Y fun b6 g1_11=>?_
    cases b6
    ·skip
     refine .off Y Y Y Y Y Y Y<|.off Y Y Y Y Y Y Y<|.off Y Y Y Y Y Y Y<|.off Y Y Y Y Y Y Y<|.pick (.on Y Y Y Y Y) Y Y Y Y Y<|.pick (.no Y) Y Y Y Y Y ?_
     exact .fin () (.of (.cons Y (.cons Y (.cons (svB (show (false)=(((decide (b < 0)&&decide (a > (IntKind.wrap .i64 (9223372036854775807+b))))||(decide (b > 0)&&decide (a < (IntKind.wrap .i64 ((-9223372036854775808)+b)))))) by first | (simp only [g1_2,g1_8,g1_11,Bool.true_or,Bool.false_or,Bool.true_and,Bool.false_and,Bool.not_true,Bool.not_false]; done) | (simp [g1_2,g1_8,g1_11]; done) | (exfalso; simp_all; done))) .nil))) .nil)
    ·skip
     refine .move (.on Y Y Y Y Y) Y Y Y Y<|.move (.on Y Y Y Y Y) Y Y Y Y<|.bin (.on Y Y Y Y Y) Y Y Y Y Y Y<|.bin (.on Y Y Y Y Y) Y Y Y Y Y Y<|.pick (.on Y Y Y Y Y) Y Y Y Y Y<|.pick (.no Y) Y Y Y Y Y ?_
     exact .fin () (.of (.cons Y (.cons Y (.cons (svB (show (decide (a < (IntKind.wrap .i64 ((-9223372036854775808)+b))))=(((decide (b < 0)&&decide (a > (IntKind.wrap .i64 (9223372036854775807+b))))||(decide (b > 0)&&decide (a < (IntKind.wrap .i64 ((-9223372036854775808)+b)))))) by first | (simp only [g1_2,g1_8,g1_11,Bool.true_or,Bool.false_or,Bool.true_and,Bool.false_and,Bool.not_true,Bool.not_false]; done) | (simp [g1_2,g1_8,g1_11]; done) | (exfalso; simp_all; done))) .nil))) .nil)
   ·skip
    refine .off Y Y Y Y Y Y Y<|.off Y Y Y Y Y Y Y<|.off Y Y Y Y Y Y Y<|.off' rfl Y Y Y Y Y<|.off' rfl Y Y Y Y Y<|.off' rfl Y Y Y Y Y<|.off' rfl Y Y Y Y Y<|.off Y Y Y Y Y Y Y<|.pick (.no Y) Y Y Y Y Y ?_
    exact .fin () (.of (.cons Y (.cons Y (.cons (svB (show (true)=(((decide (b < 0)&&decide (a > (IntKind.wrap .i64 (9223372036854775807+b))))||(decide (b > 0)&&decide (a < (IntKind.wrap .i64 ((-9223372036854775808)+b)))))) by first | (simp only [g1_2,g1_8,Bool.true_or,Bool.false_or,Bool.true_and,Bool.false_and,Bool.not_true,Bool.not_false]; done) | (simp [g1_2,g1_8]; done) | (exfalso; simp_all; done))) .nil))) .nil)
 intro _
 refine .cond (t:=((decide (b < 0)&&decide (a > (IntKind.wrap .i64 (9223372036854775807+b))))||(decide (b > 0)&&decide (a < (IntKind.wrap .i64 ((-9223372036854775808)+b)))))) Y (fun c0=>?_) (fun c0=>?_)
 ·have c0:=(oT (aT dT dT) (aT dT dT)) c0
  refine .seq<|.rs fun k7=>.mv Y<|.bi Y<|.c0 (c_side (decide (b > 0))) Y (.dd .nil) (.own [26,0] .nil) Y<|.as Y<|.as Y<|.z<|.ret ?_
  exact fin0 (.inr Y) (.one (svI (show (0)=(fitN (a - b)) by (rcases c0 with h | h; (first | exact (sub_1 ha hb h).1.symm | (rw [(sub_1 ha hb h).2,decide_eq_false (by omega)]; rfl)); (first | exact (sub_2 ha hb h).1.symm | (rw [(sub_2 ha hb h).2,decide_eq_true h.1]; rfl))))) (.one (svI (show (bif (decide (b > 0)) then -1 else 1)=(fitO (a - b)) by (rcases c0 with h | h; (first | exact (sub_1 ha hb h).1.symm | (rw [(sub_1 ha hb h).2,decide_eq_false (by omega)]; rfl)); (first | exact (sub_2 ha hb h).1.symm | (rw [(sub_2 ha hb h).2,decide_eq_true h.1]; rfl))))) .nil)) (.dd (.dd .nil)) Y
 ·have c0:=(oF (aF dF dF) (aF dF dF)) c0
  refine .skip<|.seq<|.rs fun k10=>.mv Y<|.mv Y<|.bi Y<|.as Y<|.as Y<|.z ?_
  refine .ret ?_
  exact fin0 (.inr Y) (.one (svI (show (IntKind.wrap .i64 (a - b))=(fitN (a - b)) by (first | exact (sub_3 ha hb c0.1 c0.2).1.symm | exact (sub_3 ha hb c0.1 c0.2).2.symm))) (.one (svI (show (0)=(fitO (a - b)) by (first | exact (sub_3 ha hb c0.1 c0.2).1.symm | exact (sub_3 ha hb c0.1 c0.2).2.symm))) .nil)) (.dd (.dd .nil)) Y
theorem c_l1Abs (a:Int) (ha:Fit a):Trip Tryz.prog 140 [(false,1)] ([.v (.int .i64 (a))]) [(false,1)] [.v (.int .u64 (absN a))] []:=by
 refine Trip.of Tryz.func140 (by decide) (c:=_) Y Y (Nat.le_of_ble_eq_true Y) Y (AftOk.nil _)<|.seq<|.rs fun k1=>.as Y<|.z<|.seq<|.seq<|.rs fun k2=>.mv Y ?_
 refine .bi Y<|.z ?_
 refine .cond (t:=decide (a < 0)) Y (fun c0=>?_) (fun c0=>?_)
 ·have c0:=of_decide_eq_true c0
  refine .seq<|.rs fun k3=>.mv Y<|.g (fun _ τ=>⟨_,.conv (.no Y) Y t2 t144 Y Y Y Y Y Y τ⟩)<|.un Y<|.as Y<|.z<|.ret ?_
  exact fin0 (.inr Y) (.one (svI (show (IntKind.wrap .u64 (0 - (IntKind.wrap .u64 a)))=(absN a) by (rw [abs_1' ha c0]))) .nil) (.dd .nil) Y
 ·have c0:=of_decide_eq_false c0
  refine .skip<|.seq<|.rs fun k5=>.mv Y<|.g (fun _ τ=>⟨_,.conv (.no Y) Y t2 t144 Y Y Y Y Y Y τ⟩)<|.as Y<|.z<|.ret ?_
  exact fin0 (.inr Y) (.one (svI (show (IntKind.wrap .u64 a)=(absN a) by (rw [abs_2 ha c0]))) .nil) (.dd .nil) Y
theorem c_distance (a:Int) (ha:Fit a):Trip Tryz.prog 155 [(false,1)] ([.v (.int .i64 (a))]) [(false,1)] [.v (.int .u64 (absN a))] []:=by
 refine Trip.of Tryz.func155 (by decide) (c:=_) Y Y (Nat.le_of_ble_eq_true Y) Y (AftOk.nil _)<|.seq<|.rs fun k1=>.as Y<|.z<|.seq<|.seq<|.rs fun k2=>.mv Y ?_
 refine .bi Y<|.z ?_
 refine .cond (t:=decide (a < 0)) Y (fun c0=>?_) (fun c0=>?_)
 ·have c0:=of_decide_eq_true c0
  refine .seq<|.rs fun k3=>.mv Y<|.g (fun _ τ=>⟨_,.conv (.no Y) Y t2 t144 Y Y Y Y Y Y τ⟩)<|.un Y<|.as Y<|.z<|.ret ?_
  exact fin0 (.inr Y) (.one (svI (show (IntKind.wrap .u64 (0 - (IntKind.wrap .u64 a)))=(absN a) by (rw [abs_1' ha c0]))) .nil) (.dd .nil) Y
 ·have c0:=of_decide_eq_false c0
  refine .skip<|.seq<|.rs fun k5=>.mv Y<|.g (fun _ τ=>⟨_,.conv (.no Y) Y t2 t144 Y Y Y Y Y Y τ⟩)<|.as Y<|.z<|.ret ?_
  exact fin0 (.inr Y) (.one (svI (show (IntKind.wrap .u64 a)=(absN a) by (rw [abs_2 ha c0]))) .nil) (.dd .nil) Y
theorem c_Mul64 (x:Int) (y:Int) (hx:0≤x∧x≤9223372036854775808) (hy:0≤y∧y≤9223372036854775808):Trip Tryz.prog 168 [(false,1),(false,1)] ([.v (.int .u64 (x))]++[.v (.int .u64 (y))]) [(false,1),(false,1)] [.v (.int .u64 (mulHi x y)),.v (.int .u64 (mulLo x y))] []:=by
 refine Trip.of Tryz.func168 (by decide) (c:=_) Y Y (Nat.le_of_ble_eq_true Y) Y (AftOk.nil _)<|.seq<|.rs fun k1=>.as Y<|.as Y<|.z<|.seq<|.rs fun k2=>.mv Y ?_
 refine .bi Y<|.as Y<|.z<|.seq<|.rs fun k3=>.mv Y<|.bi Y<|.as Y<|.z ?_
 refine .seq<|.rs fun k4=>.mv Y<|.bi Y<|.as Y<|.z<|.seq<|.rs fun k5=>.mv Y ?_
 refine .bi Y<|.as Y<|.z<|.seq<|.rs fun k6=>.mv Y<|.mv Y<|.bi Y<|.as Y ?_
 refine .z<|.seq<|.rs fun k7=>.mv Y<|.mv Y<|.bi Y<|.mv Y<|.bi Y<|.bi Y ?_
 refine .as Y<|.z<|.seq<|.rs fun k8=>.mv Y<|.bi Y<|.as Y<|.z<|.seq ?_
 refine .rs fun k9=>.mv Y<|.bi Y<|.as Y<|.z<|.seq<|.rs fun k10=>.mv Y<|.mv Y ?_
 refine .mv Y<|.bi Y<|.bi Y<|.as Y<|.z<|.seq ?_
 refine .reg (X:=Unit) (fun ζ=>.of [(0,.one (.d (.v (.int .u64 (x))))),(1,.one (.d (.v (.int .u64 (y))))),(4,.one (.d (.v (.int .u64 (IntKind.wrap .u64 ((IntKind.wrap .u64 ((IntKind.wrap .u64 ((x.fdiv (2 ^ (min ((32:Int)).toNat (IntKind.bits .u64)))) * (y.fdiv (2 ^ (min ((32:Int)).toNat (IntKind.bits .u64))))))+((IntKind.wrap .u64 ((IntKind.wrap .u64 ((x.fdiv (2 ^ (min ((32:Int)).toNat (IntKind.bits .u64)))) * (IntKind.wrap .u64 ((BitVec.ofInt (IntKind.bits .u64) y &&& BitVec.ofInt (IntKind.bits .u64) 4294967295).toNat:Int))))+((IntKind.wrap .u64 ((IntKind.wrap .u64 ((BitVec.ofInt (IntKind.bits .u64) x &&& BitVec.ofInt (IntKind.bits .u64) 4294967295).toNat:Int)) * (IntKind.wrap .u64 ((BitVec.ofInt (IntKind.bits .u64) y &&& BitVec.ofInt (IntKind.bits .u64) 4294967295).toNat:Int)))).fdiv (2 ^ (min ((32:Int)).toNat (IntKind.bits .u64)))))).fdiv (2 ^ (min ((32:Int)).toNat (IntKind.bits .u64))))))+((IntKind.wrap .u64 ((IntKind.wrap .u64 ((BitVec.ofInt (IntKind.bits .u64) (IntKind.wrap .u64 ((IntKind.wrap .u64 ((x.fdiv (2 ^ (min ((32:Int)).toNat (IntKind.bits .u64)))) * (IntKind.wrap .u64 ((BitVec.ofInt (IntKind.bits .u64) y &&& BitVec.ofInt (IntKind.bits .u64) 4294967295).toNat:Int))))+((IntKind.wrap .u64 ((IntKind.wrap .u64 ((BitVec.ofInt (IntKind.bits .u64) x &&& BitVec.ofInt (IntKind.bits .u64) 4294967295).toNat:Int)) * (IntKind.wrap .u64 ((BitVec.ofInt (IntKind.bits .u64) y &&& BitVec.ofInt (IntKind.bits .u64) 4294967295).toNat:Int)))).fdiv (2 ^ (min ((32:Int)).toNat (IntKind.bits .u64)))))) &&& BitVec.ofInt (IntKind.bits .u64) 4294967295).toNat:Int))+(IntKind.wrap .u64 ((IntKind.wrap .u64 ((BitVec.ofInt (IntKind.bits .u64) x &&& BitVec.ofInt (IntKind.bits .u64) 4294967295).toNat:Int)) * (y.fdiv (2 ^ (min ((32:Int)).toNat (IntKind.bits .u64)))))))).fdiv (2 ^ (min ((32:Int)).toNat (IntKind.bits .u64))))))))))] []) [⟨[7],some 40,[],[]⟩,⟨[9],some 41,[],[]⟩,⟨[40,41],some 42,[],[]⟩,⟨[13],some 43,[],[]⟩,⟨[42,43],some 44,[],[]⟩,⟨[12],some 45,[],[]⟩,⟨[45],some 46,[],[]⟩,⟨[44,46],some 47,[],[]⟩,⟨[47],some 4,[],[]⟩] (fun k11=>?_) ?_
 ·skip
  refine .move (.no Y) Y Y Y Y<|.move (.no Y) Y Y Y Y<|.bin (.no Y) Y Y Y Y Y Y<|.move (.no Y) Y Y Y Y<|.bin (.no Y) Y Y Y Y Y Y<|.move (.no Y) Y Y Y Y<|.bin (.no Y) Y Y Y Y Y Y<|.bin (.no Y) Y Y Y Y Y Y<|.assign (.no Y) Y Y Y Y ?_
  exact .fin () (.of (.r Y) .nil)
 intro _
 refine .seq<|.rs fun k12=>.mv Y<|.mv Y<|.bi Y<|.as Y<|.z<|.ret ?_
 exact fin0 (.inr Y) (.one (svI (show (IntKind.wrap .u64 ((IntKind.wrap .u64 ((IntKind.wrap .u64 ((x.fdiv (2 ^ (min ((32:Int)).toNat (IntKind.bits .u64)))) * (y.fdiv (2 ^ (min ((32:Int)).toNat (IntKind.bits .u64))))))+((IntKind.wrap .u64 ((IntKind.wrap .u64 ((x.fdiv (2 ^ (min ((32:Int)).toNat (IntKind.bits .u64)))) * (IntKind.wrap .u64 ((BitVec.ofInt (IntKind.bits .u64) y &&& BitVec.ofInt (IntKind.bits .u64) 4294967295).toNat:Int))))+((IntKind.wrap .u64 ((IntKind.wrap .u64 ((BitVec.ofInt (IntKind.bits .u64) x &&& BitVec.ofInt (IntKind.bits .u64) 4294967295).toNat:Int)) * (IntKind.wrap .u64 ((BitVec.ofInt (IntKind.bits .u64) y &&& BitVec.ofInt (IntKind.bits .u64) 4294967295).toNat:Int)))).fdiv (2 ^ (min ((32:Int)).toNat (IntKind.bits .u64)))))).fdiv (2 ^ (min ((32:Int)).toNat (IntKind.bits .u64))))))+((IntKind.wrap .u64 ((IntKind.wrap .u64 ((BitVec.ofInt (IntKind.bits .u64) (IntKind.wrap .u64 ((IntKind.wrap .u64 ((x.fdiv (2 ^ (min ((32:Int)).toNat (IntKind.bits .u64)))) * (IntKind.wrap .u64 ((BitVec.ofInt (IntKind.bits .u64) y &&& BitVec.ofInt (IntKind.bits .u64) 4294967295).toNat:Int))))+((IntKind.wrap .u64 ((IntKind.wrap .u64 ((BitVec.ofInt (IntKind.bits .u64) x &&& BitVec.ofInt (IntKind.bits .u64) 4294967295).toNat:Int)) * (IntKind.wrap .u64 ((BitVec.ofInt (IntKind.bits .u64) y &&& BitVec.ofInt (IntKind.bits .u64) 4294967295).toNat:Int)))).fdiv (2 ^ (min ((32:Int)).toNat (IntKind.bits .u64)))))) &&& BitVec.ofInt (IntKind.bits .u64) 4294967295).toNat:Int))+(IntKind.wrap .u64 ((IntKind.wrap .u64 ((BitVec.ofInt (IntKind.bits .u64) x &&& BitVec.ofInt (IntKind.bits .u64) 4294967295).toNat:Int)) * (y.fdiv (2 ^ (min ((32:Int)).toNat (IntKind.bits .u64)))))))).fdiv (2 ^ (min ((32:Int)).toNat (IntKind.bits .u64))))))=(mulHi x y) by (first | exact mul64_hi9 hx hy | exact mul64_lo9 hx hy))) (.one (svI (show (IntKind.wrap .u64 (x * y))=(mulLo x y) by (first | exact mul64_hi9 hx hy | exact mul64_lo9 hx hy))) .nil)) (.dd (.dd .nil)) Y
theorem c_sNumMul (a:Int) (b:Int) (ha:Fit a) (hb:Fit b):Trip Tryz.prog 182 [(false,1),(false,1)] ([.v (.int .i64 (a))]++[.v (.int .i64 (b))]) [(false,1),(false,1)] [.v (.int .i64 (fitN (a * b))),.v (.int .i64 (fitO (a * b)))] []:=by
 refine Trip.of Tryz.func182 (by decide) (c:=_) Y Y (Nat.le_of_ble_eq_true Y) Y (AftOk.nil _)<|.seq<|.rs fun k1=>.as Y<|.as Y<|.z<|.seq<|.seq ?_
 refine .reg (X:=Unit) (fun ζ=>.of [(0,.one (.d (.v (.int .i64 (a))))),(1,.one (.d (.v (.int .i64 (b))))),(15,.one (.d (.v (.bool ((a == 0||b == 0))))))] []) [⟨[0],some 10,[],[]⟩,⟨[10],some 11,[],[]⟩,⟨[11],some 12,[],[]⟩,⟨[12,1],some 13,[],[]⟩,⟨[12,13],some 14,[],[]⟩,⟨[12,14],some 15,[],[]⟩] (fun k2=>?_) ?_
 ·skip
  refine .move (.no Y) Y Y Y Y<|.bin (.no Y) Y Y Y Y Y Y<|.moveB (.no Y) Y Y Y Y fun b3 g1_2=>?_
  cases b3
  ·skip
   refine .move (.on Y Y Y Y Y) Y Y Y Y<|.bin (.on Y Y Y Y Y) Y Y Y Y Y Y<|.pick (.no Y) Y Y Y Y Y ?_
   exact .fin () (.of (.cons Y (.cons Y (.cons (svB (show (b == 0)=((a == 0||b == 0)) by first | (simp only [g1_2,Bool.true_or,Bool.false_or,Bool.true_and,Bool.false_and,Bool.not_true,Bool.not_false]; done) | (simp [g1_2]; done) | (exfalso; simp_all; done))) .nil))) .nil)
  ·skip
   refine .off Y Y Y Y Y Y Y<|.off Y Y Y Y Y Y Y<|.pick (.no Y) Y Y Y Y Y ?_
   exact .fin () (.of (.cons Y (.cons Y (.cons (svB (show (true)=((a == 0||b == 0)) by first | (simp only [g1_2,Bool.true_or,Bool.false_or,Bool.true_and,Bool.false_and,Bool.not_true,Bool.not_false]; done) | (simp [g1_2]; done) | (exfalso; simp_all; done))) .nil))) .nil)
 intro _
 refine .cond (t:=(a == 0||b == 0)) Y (fun c0=>?_) (fun c0=>?_)
 ·have c0:=(oT eT eT) c0
  refine .seq<|.rs fun k4=>.as Y<|.as Y<|.z<|.ret ?_
  exact fin0 (.inr Y) (.one (svI (show (0)=(fitN (a * b)) by (first | exact (mul_zero9 c0).1.symm | exact (mul_zero9 c0).2.symm))) (.one (svI (show (0)=(fitO (a * b)) by (first | exact (mul_zero9 c0).1.symm | exact (mul_zero9 c0).2.symm))) .nil)) (.dd (.dd .nil)) Y
 ·have c0:=(oF eF eF) c0
  refine .skip<|.seq<|.rs fun k7=>.mv Y<|.c0 (c_l1Abs a (by assumption)) Y (.dd .nil) (.own [17,0] .nil) Y<|.as Y<|.z<|.seq<|.rs fun k8=>?_
  refine .mv Y<|.c0 (c_l1Abs b (by assumption)) Y (.dd .nil) (.own [19,0] .nil) Y<|.as Y<|.z<|.seq<|.rs fun k9=>.mv Y<|.bi Y<|.mv Y ?_
  refine .bi Y<|.g (fun _ τ=>⟨_,.neB (.no Y) Y t4 Y Y Y Y Y τ⟩)<|.as Y<|.z<|.seq<|.rs fun k10=>.as Y<|.z<|.seq ?_
  refine .seq<|.rs fun k11=>.mv Y<|.z ?_
  refine .cond (t:=(decide (a < 0)) != (decide (b < 0))) Y (fun c1=>?_) (fun c1=>?_)
  ·have c1:=(by simpa using c1:¬ ((decide (a < 0))=(decide (b < 0))))
   refine .rs fun k12=>.as Y<|.z<|.seq<|.block<|.seq ?_
   refine .reg (X:=Unit) (fun ζ=>.of [(0,.one (.d (.v (.int .i64 (a))))),(1,.one (.d (.v (.int .i64 (b))))),(6,.one (.d (.v (.int .u64 (absN a))))),(7,.one (.d (.v (.int .u64 (absN b))))),(9,.one (.d (.v (.int .u64 (9223372036854775808))))),(26,.one (.d (.v (.bool ((decide ((absN a) > (IntKind.wrap .u64 (Int.tdiv 9223372036854775808 (absN b))))&&(decide (a < 0)) != (decide (b < 0))))))))] []) [⟨[6],some 27,[],[]⟩,⟨[9],some 28,[],[]⟩,⟨[7],some 29,[],[]⟩,⟨[28,29],some 30,[],[]⟩,⟨[27,30],some 31,[],[]⟩,⟨[31],some 32,[],[]⟩,⟨[32,8],some 33,[],[]⟩,⟨[32,33],some 34,[],[]⟩,⟨[34],some 26,[],[]⟩] (fun k13=>?_) ?_
   ·skip
    refine .move (.no Y) Y Y Y Y<|.move (.no Y) Y Y Y Y<|.move (.no Y) Y Y Y Y<|.quoRem (.no Y) Y (.inl ⟨rfl,rfl⟩) Y Y Y (ne_beq (by exact absN_ne c0.2)) Y<|.bin (.no Y) Y Y Y Y Y Y<|.moveB (.no Y) Y Y Y Y fun b14 g9_5=>?_
    cases b14
    ·skip
     refine .off Y Y Y Y Y Y Y<|.pick (.no Y) Y Y Y Y Y<|.assign (.no Y) Y Y Y Y ?_
     exact .fin () (.of (.cons Y (.cons Y (.cons Y (.cons Y (.cons Y (.cons (svB (show (false)=((decide ((absN a) > (IntKind.wrap .u64 (Int.tdiv 9223372036854775808 (absN b))))&&(decide (a < 0)) != (decide (b < 0)))) by first | (simp only [g9_5,Bool.true_or,Bool.false_or,Bool.true_and,Bool.false_and,Bool.not_true,Bool.not_false]; done) | (simp [g9_5]; done) | (exfalso; simp_all; done))) .nil)))))) .nil)
    ·skip
     refine .move (.on Y Y Y Y Y) Y Y Y Y<|.pick (.no Y) Y Y Y Y Y<|.assign (.no Y) Y Y Y Y ?_
     exact .fin () (.of (.cons Y (.cons Y (.cons Y (.cons Y (.cons Y (.cons (svB (show ((decide (a < 0)) != (decide (b < 0)))=((decide ((absN a) > (IntKind.wrap .u64 (Int.tdiv 9223372036854775808 (absN b))))&&(decide (a < 0)) != (decide (b < 0)))) by first | (simp only [g9_5,Bool.true_or,Bool.false_or,Bool.true_and,Bool.false_and,Bool.not_true,Bool.not_false]; done) | (simp [g9_5]; done) | (exfalso; simp_all; done))) .nil)))))) .nil)
   intro _
   refine .cond (t:=(decide ((absN a) > (IntKind.wrap .u64 (Int.tdiv 9223372036854775808 (absN b))))&&(decide (a < 0)) != (decide (b < 0)))) Y (fun c2=>?_) (fun c2=>?_)
   ·have c2:=(aT dT bT) c2
    refine .seq<|.rs fun k15=>.as Y<|.as Y<|.z<|.ret ?_
    exact fin0 (.inr Y) (.one (svI (show (0)=(fitN (a * b)) by (first | exact (smul_1 hb c0.2 c1 c2.1).1.symm | exact (smul_1 hb c0.2 c1 c2.1).2.symm))) (.one (svI (show (-1)=(fitO (a * b)) by (first | exact (smul_1 hb c0.2 c1 c2.1).1.symm | exact (smul_1 hb c0.2 c1 c2.1).2.symm))) .nil)) (.dd (.dd .nil)) Y
   ·have c2:=(aF dF bF) c2
    refine .seq<|.rs fun k18=>.mv Y<|.mv Y<|.mv Y<|.g (fun _ τ=>⟨_,.quoRem (.no Y) Y (.inl ⟨rfl,rfl⟩) Y Y Y (ne_beq (by exact absN_ne c0.2)) Y τ⟩)<|.bi Y<|.as Y<|.z ?_
    refine .cond (t:=decide ((absN a) > (IntKind.wrap .u64 (Int.tdiv 9223372036854775808 (absN b))))) Y (fun c3=>?_) (fun c3=>?_)
    ·have c3:=of_decide_eq_true c3
     refine .seq<|.rs fun k19=>.as Y<|.as Y<|.z<|.ret ?_
     exact fin0 (.inr Y) (.one (svI (show (0)=(fitN (a * b)) by (exact absurd (c2.resolve_left (fun h9=>h9 c3)) c1))) (.one (svI (show (1)=(fitO (a * b)) by (exact absurd (c2.resolve_left (fun h9=>h9 c3)) c1))) .nil)) (.dd (.dd .nil)) Y
    ·have c3:=of_decide_eq_false c3
     refine .skip<|.seq<|.rs fun k22=>.mv Y<|.mv Y<|.bi Y<|.as Y<|.as Y<|.z ?_
     refine .ret ?_
     exact fin0 (.inr Y) (.one (svI (show (IntKind.wrap .i64 (a * b))=(fitN (a * b)) by (first | exact (smul_3 ha hb c0.2 c1 c3).1.symm | exact (smul_3 ha hb c0.2 c1 c3).2.symm))) (.one (svI (show (0)=(fitO (a * b)) by (first | exact (smul_3 ha hb c0.2 c1 c3).1.symm | exact (smul_3 ha hb c0.2 c1 c3).2.symm))) .nil)) (.dd (.dd .nil)) Y
  ·have c1:=(by simpa using c1:(decide (a < 0))=(decide (b < 0)))
   refine .skip<|.seq<|.block<|.seq ?_
   refine .reg (X:=Unit) (fun ζ=>.of [(0,.one (.d (.v (.int .i64 (a))))),(1,.one (.d (.v (.int .i64 (b))))),(6,.one (.d (.v (.int .u64 (absN a))))),(7,.one (.d (.v (.int .u64 (absN b))))),(9,.one (.d (.v (.int .u64 (9223372036854775807))))),(26,.one (.d (.v (.bool ((decide ((absN a) > (IntKind.wrap .u64 (Int.tdiv 9223372036854775807 (absN b))))&&(decide (a < 0)) != (decide (b < 0))))))))] []) [⟨[6],some 27,[],[]⟩,⟨[9],some 28,[],[]⟩,⟨[7],some 29,[],[]⟩,⟨[28,29],some 30,[],[]⟩,⟨[27,30],some 31,[],[]⟩,⟨[31],some 32,[],[]⟩,⟨[32,8],some 33,[],[]⟩,⟨[32,33],some 34,[],[]⟩,⟨[34],some 26,[],[]⟩] (fun k25=>?_) ?_
   ·skip
    refine .move (.no Y) Y Y Y Y<|.move (.no Y) Y Y Y Y<|.move (.no Y) Y Y Y Y<|.quoRem (.no Y) Y (.inl ⟨rfl,rfl⟩) Y Y Y (ne_beq (by exact absN_ne c0.2)) Y<|.bin (.no Y) Y Y Y Y Y Y<|.moveB (.no Y) Y Y Y Y fun b26 g9_5=>?_
    cases b26
    ·skip
     refine .off Y Y Y Y Y Y Y<|.pick (.no Y) Y Y Y Y Y<|.assign (.no Y) Y Y Y Y ?_
     exact .fin () (.of (.cons Y (.cons Y (.cons Y (.cons Y (.cons Y (.cons (svB (show (false)=((decide ((absN a) > (IntKind.wrap .u64 (Int.tdiv 9223372036854775807 (absN b))))&&(decide (a < 0)) != (decide (b < 0)))) by first | (simp only [g9_5,Bool.true_or,Bool.false_or,Bool.true_and,Bool.false_and,Bool.not_true,Bool.not_false]; done) | (simp [g9_5]; done) | (exfalso; simp_all; done))) .nil)))))) .nil)
    ·skip
     refine .move (.on Y Y Y Y Y) Y Y Y Y<|.pick (.no Y) Y Y Y Y Y<|.assign (.no Y) Y Y Y Y ?_
     exact .fin () (.of (.cons Y (.cons Y (.cons Y (.cons Y (.cons Y (.cons (svB (show ((decide (a < 0)) != (decide (b < 0)))=((decide ((absN a) > (IntKind.wrap .u64 (Int.tdiv 9223372036854775807 (absN b))))&&(decide (a < 0)) != (decide (b < 0)))) by first | (simp only [g9_5,Bool.true_or,Bool.false_or,Bool.true_and,Bool.false_and,Bool.not_true,Bool.not_false]; done) | (simp [g9_5]; done) | (exfalso; simp_all; done))) .nil)))))) .nil)
   intro _
   refine .cond (t:=(decide ((absN a) > (IntKind.wrap .u64 (Int.tdiv 9223372036854775807 (absN b))))&&(decide (a < 0)) != (decide (b < 0)))) Y (fun c2=>?_) (fun c2=>?_)
   ·have c2:=(aT dT bT) c2
    refine .seq<|.rs fun k27=>.as Y<|.as Y<|.z<|.ret ?_
    exact fin0 (.inr Y) (.one (svI (show (0)=(fitN (a * b)) by (exact absurd c1 c2.2))) (.one (svI (show (-1)=(fitO (a * b)) by (exact absurd c1 c2.2))) .nil)) (.dd (.dd .nil)) Y
   ·have c2:=(aF dF bF) c2
    refine .seq<|.rs fun k30=>.mv Y<|.mv Y<|.mv Y<|.g (fun _ τ=>⟨_,.quoRem (.no Y) Y (.inl ⟨rfl,rfl⟩) Y Y Y (ne_beq (by exact absN_ne c0.2)) Y τ⟩)<|.bi Y<|.as Y<|.z ?_
    refine .cond (t:=decide ((absN a) > (IntKind.wrap .u64 (Int.tdiv 9223372036854775807 (absN b))))) Y (fun c3=>?_) (fun c3=>?_)
    ·have c3:=of_decide_eq_true c3
     refine .seq<|.rs fun k31=>.as Y<|.as Y<|.z<|.ret ?_
     exact fin0 (.inr Y) (.one (svI (show (0)=(fitN (a * b)) by (first | exact (smul_5 hb c0.2 c1 c3).1.symm | exact (smul_5 hb c0.2 c1 c3).2.symm))) (.one (svI (show (1)=(fitO (a * b)) by (first | exact (smul_5 hb c0.2 c1 c3).1.symm | exact (smul_5 hb c0.2 c1 c3).2.symm))) .nil)) (.dd (.dd .nil)) Y
    ·have c3:=of_decide_eq_false c3
     refine .skip<|.seq<|.rs fun k34=>.mv Y<|.mv Y<|.bi Y<|.as Y<|.as Y<|.z ?_
     refine .ret ?_
     exact fin0 (.inr Y) (.one (svI (show (IntKind.wrap .i64 (a * b))=(fitN (a * b)) by (first | exact (smul_6 ha hb c0.2 c1 c3).1.symm | exact (smul_6 ha hb c0.2 c1 c3).2.symm))) (.one (svI (show (0)=(fitO (a * b)) by (first | exact (smul_6 ha hb c0.2 c1 c3).1.symm | exact (smul_6 ha hb c0.2 c1 c3).2.symm))) .nil)) (.dd (.dd .nil)) Y
theorem c_NumMul (a:Int) (b:Int) (ha:Fit a) (hb:Fit b):Trip Tryz.prog 131 [(false,1),(false,1)] ([.v (.int .i64 (a))]++[.v (.int .i64 (b))]) [(false,1),(false,1)] [.v (.int .i64 (fitN (a * b))),.v (.int .i64 (fitO (a * b)))] []:=by
 refine Trip.of Tryz.func131 (by decide) (c:=_) Y Y (Nat.le_of_ble_eq_true Y) Y (AftOk.nil _)<|.seq<|.rs fun k1=>.as Y<|.as Y<|.z<|.seq<|.rs fun k2=>.mv Y ?_
 refine .c0 (c_distance a (by first | assumption | exact absN_bnd ha | exact absN_bnd hb)) Y (.dd .nil) (.own [12,0] .nil) Y<|.mv Y<|.c0 (c_distance b (by first | assumption | exact absN_bnd ha | exact absN_bnd hb)) Y (.dd .nil) (.own [14,0] .nil) Y<|.c0 (c_Mul64 (absN a) (absN b) (by first | assumption | exact absN_bnd ha | exact absN_bnd hb) (by first | assumption | exact absN_bnd ha | exact absN_bnd hb)) Y (.dd (.dd .nil)) (.own [15,0] (.own [15,1] .nil)) Y<|.g (fun _ τ=>⟨_,.move (.no Y) Y Y Y Y τ⟩)<|.g (fun _ τ=>⟨_,.extract (.no Y) Y Y Y Y Y τ⟩)<|.g (fun _ τ=>⟨_,.extract (.no Y) Y Y Y Y Y τ⟩)<|.as Y<|.as Y ?_
 refine .z<|.seq<|.rs fun k3=>.mv Y<|.bi Y<|.mv Y<|.bi Y<|.g (fun _ τ=>⟨_,.neB (.no Y) Y t4 Y Y Y Y Y τ⟩)<|.as Y ?_
 refine .z<|.seq<|.rs fun k4=>.as Y<|.z<|.seq<|.seq<|.rs fun k5=>.mv Y ?_
 refine .z ?_
 refine .cond (t:=(decide (a < 0)) != (decide (b < 0))) Y (fun c0=>?_) (fun c0=>?_)
 ·have c0:=(by simpa using c0:¬ ((decide (a < 0))=(decide (b < 0))))
  refine .rs fun k6=>.mv Y<|.bi Y<|.as Y<|.z<|.seq<|.block<|.seq ?_
  refine .reg (X:=Unit) (fun ζ=>.of [(7,.one (.d (.v (.int .u64 (mulLo (absN a) (absN b)))))),(8,.one (.d (.v (.bool ((decide (a < 0)) != (decide (b < 0))))))),(26,.one (.d (.v (.bool ((decide ((mulHi (absN a) (absN b)) > 0)||decide ((mulLo (absN a) (absN b)) > (IntKind.wrap .u64 (9223372036854775807+1)))))))))] []) [⟨[6],some 27,[],[]⟩,⟨[27],some 28,[],[]⟩,⟨[28],some 29,[],[]⟩,⟨[29,7],some 30,[],[]⟩,⟨[29,9],some 31,[],[]⟩,⟨[29,30,31],some 32,[],[]⟩,⟨[29,32],some 33,[],[]⟩,⟨[33],some 26,[],[]⟩] (fun k7=>?_) ?_
  ·skip
   refine .move (.no Y) Y Y Y Y<|.bin (.no Y) Y Y Y Y Y Y<|.moveB (.no Y) Y Y Y Y fun b8 g6_2=>?_
   cases b8
   ·skip
    refine .move (.on Y Y Y Y Y) Y Y Y Y<|.move (.on Y Y Y Y Y) Y Y Y Y<|.bin (.on Y Y Y Y Y) Y Y Y Y Y Y<|.pick (.no Y) Y Y Y Y Y<|.assign (.no Y) Y Y Y Y ?_
    exact .fin () (.of (.cons Y (.cons Y (.cons (svB (show (decide ((mulLo (absN a) (absN b)) > (IntKind.wrap .u64 (9223372036854775807+1))))=((decide ((mulHi (absN a) (absN b)) > 0)||decide ((mulLo (absN a) (absN b)) > (IntKind.wrap .u64 (9223372036854775807+1))))) by first | (simp only [g6_2,Bool.true_or,Bool.false_or,Bool.true_and,Bool.false_and,Bool.not_true,Bool.not_false]; done) | (simp [g6_2]; done) | (exfalso; simp_all; done))) .nil))) .nil)
   ·skip
    refine .off Y Y Y Y Y Y Y<|.off Y Y Y Y Y Y Y<|.off Y Y Y Y Y Y Y<|.pick (.no Y) Y Y Y Y Y<|.assign (.no Y) Y Y Y Y ?_
    exact .fin () (.of (.cons Y (.cons Y (.cons (svB (show (true)=((decide ((mulHi (absN a) (absN b)) > 0)||decide ((mulLo (absN a) (absN b)) > (IntKind.wrap .u64 (9223372036854775807+1))))) by first | (simp only [g6_2,Bool.true_or,Bool.false_or,Bool.true_and,Bool.false_and,Bool.not_true,Bool.not_false]; done) | (simp [g6_2]; done) | (exfalso; simp_all; done))) .nil))) .nil)
  intro _
  refine .cond (t:=(decide ((mulHi (absN a) (absN b)) > 0)||decide ((mulLo (absN a) (absN b)) > (IntKind.wrap .u64 (9223372036854775807+1))))) Y (fun c1=>?_) (fun c1=>?_)
  ·have c1:=(oT dT dT) c1
   refine .seq<|.rs fun k9=>.mv Y<|.c0 (c_side ((decide (a < 0)) != (decide (b < 0)))) Y (.dd .nil) (.own [35,0] .nil) Y<|.as Y<|.as Y<|.z<|.ret ?_
   exact fin0 (.inr Y) (.one (svI (show (0)=(fitN (a * b)) by (first | exact (imul_0 ha hb c0 c1).1.symm | exact (imul_0 ha hb c0 c1).2.symm))) (.one (svI (show (bif ((decide (a < 0)) != (decide (b < 0))) then -1 else 1)=(fitO (a * b)) by (first | exact (imul_0 ha hb c0 c1).1.symm | exact (imul_0 ha hb c0 c1).2.symm))) .nil)) (.dd (.dd .nil)) Y
  ·have c1:=(oF dF dF) c1
   refine .seq<|.rs fun k12=>.mv Y<|.as Y<|.z ?_
   refine .cond (t:=(decide (a < 0)) != (decide (b < 0))) Y (fun c2=>?_) (fun c2=>?_)
   ·have c2:=(by simpa using c2:¬ ((decide (a < 0))=(decide (b < 0))))
    refine .seq<|.rs fun k13=>.mv Y<|.un Y<|.g (fun _ τ=>⟨_,.conv (.no Y) Y t144 t2 Y Y Y Y Y Y τ⟩)<|.as Y<|.as Y<|.z<|.ret ?_
    exact fin0 (.inr Y) (.one (svI (show (IntKind.wrap .i64 (IntKind.wrap .u64 (0 - (mulLo (absN a) (absN b)))))=(fitN (a * b)) by (first | exact (imul_1 ha hb c0 c1).1.symm | exact (imul_1 ha hb c0 c1).2.symm))) (.one (svI (show (0)=(fitO (a * b)) by (first | exact (imul_1 ha hb c0 c1).1.symm | exact (imul_1 ha hb c0 c1).2.symm))) .nil)) (.dd (.dd .nil)) Y
   ·have c2:=(by simpa using c2:(decide (a < 0))=(decide (b < 0)))
    refine .skip<|.seq<|.rs fun k16=>.mv Y<|.g (fun _ τ=>⟨_,.conv (.no Y) Y t144 t2 Y Y Y Y Y Y τ⟩)<|.as Y<|.as Y<|.z<|.ret ?_
    exact fin0 (.inr Y) (.one (svI (show (IntKind.wrap .i64 (mulLo (absN a) (absN b)))=(fitN (a * b)) by exact absurd c2 c0)) (.one (svI (show (0)=(fitO (a * b)) by exact absurd c2 c0)) .nil)) (.dd (.dd .nil)) Y
 ·have c0:=(by simpa using c0:(decide (a < 0))=(decide (b < 0)))
  refine .skip<|.seq<|.block<|.seq ?_
  refine .reg (X:=Unit) (fun ζ=>.of [(7,.one (.d (.v (.int .u64 (mulLo (absN a) (absN b)))))),(8,.one (.d (.v (.bool ((decide (a < 0)) != (decide (b < 0))))))),(26,.one (.d (.v (.bool ((decide ((mulHi (absN a) (absN b)) > 0)||decide ((mulLo (absN a) (absN b)) > 9223372036854775807)))))))] []) [⟨[6],some 27,[],[]⟩,⟨[27],some 28,[],[]⟩,⟨[28],some 29,[],[]⟩,⟨[29,7],some 30,[],[]⟩,⟨[29,9],some 31,[],[]⟩,⟨[29,30,31],some 32,[],[]⟩,⟨[29,32],some 33,[],[]⟩,⟨[33],some 26,[],[]⟩] (fun k19=>?_) ?_
  ·skip
   refine .move (.no Y) Y Y Y Y<|.bin (.no Y) Y Y Y Y Y Y<|.moveB (.no Y) Y Y Y Y fun b20 g6_2=>?_
   cases b20
   ·skip
    refine .move (.on Y Y Y Y Y) Y Y Y Y<|.move (.on Y Y Y Y Y) Y Y Y Y<|.bin (.on Y Y Y Y Y) Y Y Y Y Y Y<|.pick (.no Y) Y Y Y Y Y<|.assign (.no Y) Y Y Y Y ?_
    exact .fin () (.of (.cons Y (.cons Y (.cons (svB (show (decide ((mulLo (absN a) (absN b)) > 9223372036854775807))=((decide ((mulHi (absN a) (absN b)) > 0)||decide ((mulLo (absN a) (absN b)) > 9223372036854775807))) by first | (simp only [g6_2,Bool.true_or,Bool.false_or,Bool.true_and,Bool.false_and,Bool.not_true,Bool.not_false]; done) | (simp [g6_2]; done) | (exfalso; simp_all; done))) .nil))) .nil)
   ·skip
    refine .off Y Y Y Y Y Y Y<|.off Y Y Y Y Y Y Y<|.off Y Y Y Y Y Y Y<|.pick (.no Y) Y Y Y Y Y<|.assign (.no Y) Y Y Y Y ?_
    exact .fin () (.of (.cons Y (.cons Y (.cons (svB (show (true)=((decide ((mulHi (absN a) (absN b)) > 0)||decide ((mulLo (absN a) (absN b)) > 9223372036854775807))) by first | (simp only [g6_2,Bool.true_or,Bool.false_or,Bool.true_and,Bool.false_and,Bool.not_true,Bool.not_false]; done) | (simp [g6_2]; done) | (exfalso; simp_all; done))) .nil))) .nil)
  intro _
  refine .cond (t:=(decide ((mulHi (absN a) (absN b)) > 0)||decide ((mulLo (absN a) (absN b)) > 9223372036854775807))) Y (fun c1=>?_) (fun c1=>?_)
  ·have c1:=(oT dT dT) c1
   refine .seq<|.rs fun k21=>.mv Y<|.c0 (c_side ((decide (a < 0)) != (decide (b < 0)))) Y (.dd .nil) (.own [35,0] .nil) Y<|.as Y<|.as Y<|.z<|.ret ?_
   exact fin0 (.inr Y) (.one (svI (show (0)=(fitN (a * b)) by (first | exact (imul_3 ha hb c0 c1).1.symm | exact (imul_3 ha hb c0 c1).2.symm))) (.one (svI (show (bif ((decide (a < 0)) != (decide (b < 0))) then -1 else 1)=(fitO (a * b)) by (first | exact (imul_3 ha hb c0 c1).1.symm | exact (imul_3 ha hb c0 c1).2.symm))) .nil)) (.dd (.dd .nil)) Y
  ·have c1:=(oF dF dF) c1
   refine .seq<|.rs fun k24=>.mv Y<|.as Y<|.z ?_
   refine .cond (t:=(decide (a < 0)) != (decide (b < 0))) Y (fun c2=>?_) (fun c2=>?_)
   ·have c2:=(by simpa using c2:¬ ((decide (a < 0))=(decide (b < 0))))
    refine .seq<|.rs fun k25=>.mv Y<|.un Y<|.g (fun _ τ=>⟨_,.conv (.no Y) Y t144 t2 Y Y Y Y Y Y τ⟩)<|.as Y<|.as Y<|.z<|.ret ?_
    exact fin0 (.inr Y) (.one (svI (show (IntKind.wrap .i64 (IntKind.wrap .u64 (0 - (mulLo (absN a) (absN b)))))=(fitN (a * b)) by exact absurd c0 c2)) (.one (svI (show (0)=(fitO (a * b)) by exact absurd c0 c2)) .nil)) (.dd (.dd .nil)) Y
   ·have c2:=(by simpa using c2:(decide (a < 0))=(decide (b < 0)))
    refine .skip<|.seq<|.rs fun k28=>.mv Y<|.g (fun _ τ=>⟨_,.conv (.no Y) Y t144 t2 Y Y Y Y Y Y τ⟩)<|.as Y<|.as Y<|.z<|.ret ?_
    exact fin0 (.inr Y) (.one (svI (show (IntKind.wrap .i64 (mulLo (absN a) (absN b)))=(fitN (a * b)) by (first | exact (imul_5 ha hb c0 c1).1.symm | exact (imul_5 ha hb c0 c1).2.symm))) (.one (svI (show (0)=(fitO (a * b)) by (first | exact (imul_5 ha hb c0 c1).1.symm | exact (imul_5 ha hb c0 c1).2.symm))) .nil)) (.dd (.dd .nil)) Y
theorem c_sNumQuo (a:Int) (b:Int) (ha:Fit a) (hb:Fit b):Trip Tryz.prog 183 [(false,1),(false,1)] ([.v (.int .i64 (a))]++[.v (.int .i64 (b))]) [(false,1),(false,1)] [.v (.int .i64 (quoN a b)),.v (.int .i64 (quoO a b))] []:=by
 refine Trip.of Tryz.func183 (by decide) (c:=_) Y Y (Nat.le_of_ble_eq_true Y) Y (AftOk.nil _)<|.seq<|.rs fun k1=>.as Y<|.as Y<|.z<|.seq<|.block<|.seq ?_
 refine .rs fun k2=>.mv Y<|.bi Y<|.as Y<|.z ?_
 refine .cond (t:=b == 0) Y (fun c0=>?_) (fun c0=>?_)
 ·have c0:=(by simpa using c0:b=0)
  refine .seq<|.rs fun k3=>.as Y<|.as Y<|.z<|.ret ?_
  exact fin0 (.inr Y) (.one (svI (show (0)=(quoN a b) by (first | (unfold quoN; rw [if_pos c0]) | (unfold quoO; rw [if_pos c0])))) (.one (svI (show (0)=(quoO a b) by (first | (unfold quoN; rw [if_pos c0]) | (unfold quoO; rw [if_pos c0])))) .nil)) (.dd (.dd .nil)) Y
 ·have c0:=(by simpa using c0:¬ (b=0))
  refine .seq<|.rs fun k6=>.mv Y<|.bi Y<|.as Y<|.z ?_
  refine .cond (t:=b == (-1)) Y (fun c1=>?_) (fun c1=>?_)
  ·have c1:=(by simpa using c1:b=(-1))
   refine .seq<|.rs fun k7=>.mv Y<|.c0 (c_sNumSub 0 a (by first | assumption | (unfold Fit; omega)) (by first | assumption | (unfold Fit; omega))) Y (.dd (.dd .nil)) (.own [13,0] (.own [13,1] .nil)) Y<|.g (fun _ τ=>⟨_,.extract (.no Y) Y Y Y Y Y τ⟩)<|.g (fun _ τ=>⟨_,.extract (.no Y) Y Y Y Y Y τ⟩)<|.as Y<|.as Y<|.z ?_
   refine .ret ?_
   exact fin0 (.inr Y) (.one (svI (show (fitN (0 - a))=(quoN a b) by (first | exact (quo_neg ha c1).1.symm | exact (quo_neg ha c1).2.symm))) (.one (svI (show (fitO (0 - a))=(quoO a b) by (first | exact (quo_neg ha c1).1.symm | exact (quo_neg ha c1).2.symm))) .nil)) (.dd (.dd .nil)) Y
  ·have c1:=(by simpa using c1:¬ (b=(-1)))
   refine .skip<|.seq<|.rs fun k10=>.mv Y<|.mv Y<|.g (fun _ τ=>⟨_,.quoRem (.no Y) Y (.inl ⟨rfl,rfl⟩) Y Y Y (ne_beq (by omega)) Y τ⟩)<|.as Y<|.as Y<|.z ?_
   refine .ret ?_
   exact fin0 (.inr Y) (.one (svI (show (IntKind.wrap .i64 (Int.tdiv a b))=(quoN a b) by (first | exact (quo_end ha c0 (.inr c1)).1.symm | exact (quo_end ha c0 (.inr c1)).2.symm))) (.one (svI (show (0)=(quoO a b) by (first | exact (quo_end ha c0 (.inr c1)).1.symm | exact (quo_end ha c0 (.inr c1)).2.symm))) .nil)) (.dd (.dd .nil)) Y
theorem c_NumQuo (a:Int) (b:Int) (ha:Fit a) (hb:Fit b):Trip Tryz.prog 133 [(false,1),(false,1)] ([.v (.int .i64 (a))]++[.v (.int .i64 (b))]) [(false,1),(false,1)] [.v (.int .i64 (quoN a b)),.v (.int .i64 (quoO a b))] []:=by
 refine Trip.of Tryz.func133 (by decide) (c:=_) Y Y (Nat.le_of_ble_eq_true Y) Y (AftOk.nil _)<|.seq<|.rs fun k1=>.as Y<|.as Y<|.z<|.seq<|.block<|.seq ?_
 refine .rs fun k2=>.mv Y<|.bi Y<|.as Y<|.z ?_
 refine .cond (t:=b == 0) Y (fun c0=>?_) (fun c0=>?_)
 ·have c0:=(by simpa using c0:b=0)
  refine .seq<|.rs fun k3=>.as Y<|.as Y<|.z<|.ret ?_
  exact fin0 (.inr Y) (.one (svI (show (0)=(quoN a b) by (first | (unfold quoN; rw [if_pos c0]) | (unfold quoO; rw [if_pos c0])))) (.one (svI (show (0)=(quoO a b) by (first | (unfold quoN; rw [if_pos c0]) | (unfold quoO; rw [if_pos c0])))) .nil)) (.dd (.dd .nil)) Y
 ·have c0:=(by simpa using c0:¬ (b=0))
  refine .seq ?_
  refine .reg (X:=Unit) (fun ζ=>.of [(0,.one (.d (.v (.int .i64 (a))))),(1,.one (.d (.v (.int .i64 (b))))),(9,.one (.d (.v (.bool ((a == (-9223372036854775808)&&b == (-1)))))))] []) [⟨[0],some 10,[],[]⟩,⟨[10],some 11,[],[]⟩,⟨[11],some 12,[],[]⟩,⟨[12,1],some 13,[],[]⟩,⟨[12,13],some 14,[],[]⟩,⟨[12,14],some 15,[],[]⟩,⟨[15],some 9,[],[]⟩] (fun k6=>?_) ?_
  ·skip
   refine .move (.no Y) Y Y Y Y<|.bin (.no Y) Y Y Y Y Y Y<|.moveB (.no Y) Y Y Y Y fun b7 g3_2=>?_
   cases b7
   ·skip
    refine .off Y Y Y Y Y Y Y<|.off Y Y Y Y Y Y Y<|.pick (.no Y) Y Y Y Y Y<|.assign (.no Y) Y Y Y Y ?_
    exact .fin () (.of (.cons Y (.cons Y (.cons (svB (show (false)=((a == (-9223372036854775808)&&b == (-1))) by first | (simp only [g3_2,Bool.true_or,Bool.false_or,Bool.true_and,Bool.false_and,Bool.not_true,Bool.not_false]; done) | (simp [g3_2]; done) | (exfalso; simp_all; done))) .nil))) .nil)
   ·skip
    refine .move (.on Y Y Y Y Y) Y Y Y Y<|.bin (.on Y Y Y Y Y) Y Y Y Y Y Y<|.pick (.no Y) Y Y Y Y Y<|.assign (.no Y) Y Y Y Y ?_
    exact .fin () (.of (.cons Y (.cons Y (.cons (svB (show (b == (-1))=((a == (-9223372036854775808)&&b == (-1))) by first | (simp only [g3_2,Bool.true_or,Bool.false_or,Bool.true_and,Bool.false_and,Bool.not_true,Bool.not_false]; done) | (simp [g3_2]; done) | (exfalso; simp_all; done))) .nil))) .nil)
  intro _
  refine .cond (t:=(a == (-9223372036854775808)&&b == (-1))) Y (fun c1=>?_) (fun c1=>?_)
  ·have c1:=(aT eT eT) c1
   refine .seq<|.rs fun k8=>.as Y<|.as Y<|.z<|.ret ?_
   exact fin0 (.inr Y) (.one (svI (show (0)=(quoN a b) by (first | (rw [(quo_neg ha c1.2).1,c1.1]; rfl) | (rw [(quo_neg ha c1.2).2,c1.1]; rfl)))) (.one (svI (show (1)=(quoO a b) by (first | (rw [(quo_neg ha c1.2).1,c1.1]; rfl) | (rw [(quo_neg ha c1.2).2,c1.1]; rfl)))) .nil)) (.dd (.dd .nil)) Y
  ·have c1:=(aF eF eF) c1
   refine .skip<|.seq<|.rs fun k11=>.mv Y<|.mv Y<|.g (fun _ τ=>⟨_,.quoRem (.no Y) Y (.inl ⟨rfl,rfl⟩) Y Y Y (ne_beq (by omega)) Y τ⟩)<|.as Y<|.as Y<|.z ?_
   refine .ret ?_
   exact fin0 (.inr Y) (.one (svI (show (IntKind.wrap .i64 (Int.tdiv a b))=(quoN a b) by (first | exact (quo_end ha c0 c1).1.symm | exact (quo_end ha c0 c1).2.symm))) (.one (svI (show (0)=(quoO a b) by (first | exact (quo_end ha c0 c1).1.symm | exact (quo_end ha c0 c1).2.symm))) .nil)) (.dd (.dd .nil)) Y
theorem c_sNumRem (a:Int) (b:Int):Trip Tryz.prog 139 [(false,1),(false,1)] ([.v (.int .i64 (a))]++[.v (.int .i64 (b))]) [(false,1)] [.v (.int .i64 (remN a b))] []:=by
 refine Trip.of Tryz.func139 (by decide) (c:=_) Y Y (Nat.le_of_ble_eq_true Y) Y (AftOk.nil _)<|.seq<|.rs fun k1=>.as Y<|.z<|.seq<|.seq ?_
 refine .reg (X:=Unit) (fun ζ=>.of [(0,.one (.d (.v (.int .i64 (a))))),(1,.one (.d (.v (.int .i64 (b))))),(10,.one (.d (.v (.bool ((b == 0||b == (-1)))))))] []) [⟨[1],some 5,[],[]⟩,⟨[5],some 6,[],[]⟩,⟨[6],some 7,[],[]⟩,⟨[7,1],some 8,[],[]⟩,⟨[7,8],some 9,[],[]⟩,⟨[7,9],some 10,[],[]⟩] (fun k2=>?_) ?_
 ·skip
  refine .move (.no Y) Y Y Y Y<|.bin (.no Y) Y Y Y Y Y Y<|.moveB (.no Y) Y Y Y Y fun b3 g1_2=>?_
  cases b3
  ·skip
   refine .move (.on Y Y Y Y Y) Y Y Y Y<|.bin (.on Y Y Y Y Y) Y Y Y Y Y Y<|.pick (.no Y) Y Y Y Y Y ?_
   exact .fin () (.of (.cons Y (.cons Y (.cons (svB (show (b == (-1))=((b == 0||b == (-1))) by first | (simp only [g1_2,Bool.true_or,Bool.false_or,Bool.true_and,Bool.false_and,Bool.not_true,Bool.not_false]; done) | (simp [g1_2]; done) | (exfalso; simp_all; done))) .nil))) .nil)
  ·skip
   refine .off Y Y Y Y Y Y Y<|.off Y Y Y Y Y Y Y<|.pick (.no Y) Y Y Y Y Y ?_
   exact .fin () (.of (.cons Y (.cons Y (.cons (svB (show (true)=((b == 0||b == (-1))) by first | (simp only [g1_2,Bool.true_or,Bool.false_or,Bool.true_and,Bool.false_and,Bool.not_true,Bool.not_false]; done) | (simp [g1_2]; done) | (exfalso; simp_all; done))) .nil))) .nil)
 intro _
 refine .cond (t:=(b == 0||b == (-1))) Y (fun c0=>?_) (fun c0=>?_)
 ·have c0:=(oT eT eT) c0
  refine .seq<|.rs fun k4=>.as Y<|.z<|.ret ?_
  exact fin0 (.inr Y) (.one (svI (show (0)=(remN a b) by (rw [rem_no c0]))) .nil) (.dd .nil) Y
 ·have c0:=(oF eF eF) c0
  refine .skip<|.seq<|.rs fun k6=>.mv Y<|.mv Y<|.g (fun _ τ=>⟨_,.quoRem (.no Y) Y (.inr ⟨rfl,rfl⟩) Y Y Y (ne_beq (by omega)) Y τ⟩)<|.as Y<|.z<|.ret ?_
  exact fin0 (.inr Y) (.one (svI (show (Int.tmod a b)=(remN a b) by (rw [rem_end c0.1]))) .nil) (.dd .nil) Y
theorem c_NumRem (a:Int) (b:Int):Trip Tryz.prog 132 [(false,1),(false,1)] ([.v (.int .i64 (a))]++[.v (.int .i64 (b))]) [(false,1)] [.v (.int .i64 (remN a b))] []:=by
 refine Trip.of Tryz.func132 (by decide) (c:=_) Y Y (Nat.le_of_ble_eq_true Y) Y (AftOk.nil _)<|.seq<|.rs fun k1=>.as Y<|.z<|.seq<|.seq ?_
 refine .reg (X:=Unit) (fun ζ=>.of [(0,.one (.d (.v (.int .i64 (a))))),(1,.one (.d (.v (.int .i64 (b))))),(10,.one (.d (.v (.bool ((b == 0||b == (-1)))))))] []) [⟨[1],some 5,[],[]⟩,⟨[5],some 6,[],[]⟩,⟨[6],some 7,[],[]⟩,⟨[7,1],some 8,[],[]⟩,⟨[7,8],some 9,[],[]⟩,⟨[7,9],some 10,[],[]⟩] (fun k2=>?_) ?_
 ·skip
  refine .move (.no Y) Y Y Y Y<|.bin (.no Y) Y Y Y Y Y Y<|.moveB (.no Y) Y Y Y Y fun b3 g1_2=>?_
  cases b3
  ·skip
   refine .move (.on Y Y Y Y Y) Y Y Y Y<|.bin (.on Y Y Y Y Y) Y Y Y Y Y Y<|.pick (.no Y) Y Y Y Y Y ?_
   exact .fin () (.of (.cons Y (.cons Y (.cons (svB (show (b == (-1))=((b == 0||b == (-1))) by first | (simp only [g1_2,Bool.true_or,Bool.false_or,Bool.true_and,Bool.false_and,Bool.not_true,Bool.not_false]; done) | (simp [g1_2]; done) | (exfalso; simp_all; done))) .nil))) .nil)
  ·skip
   refine .off Y Y Y Y Y Y Y<|.off Y Y Y Y Y Y Y<|.pick (.no Y) Y Y Y Y Y ?_
   exact .fin () (.of (.cons Y (.cons Y (.cons (svB (show (true)=((b == 0||b == (-1))) by first | (simp only [g1_2,Bool.true_or,Bool.false_or,Bool.true_and,Bool.false_and,Bool.not_true,Bool.not_false]; done) | (simp [g1_2]; done) | (exfalso; simp_all; done))) .nil))) .nil)
 intro _
 refine .cond (t:=(b == 0||b == (-1))) Y (fun c0=>?_) (fun c0=>?_)
 ·have c0:=(oT eT eT) c0
  refine .seq<|.rs fun k4=>.as Y<|.z<|.ret ?_
  exact fin0 (.inr Y) (.one (svI (show (0)=(remN a b) by (rw [rem_no c0]))) .nil) (.dd .nil) Y
 ·have c0:=(oF eF eF) c0
  refine .skip<|.seq<|.rs fun k6=>.mv Y<|.mv Y<|.g (fun _ τ=>⟨_,.quoRem (.no Y) Y (.inr ⟨rfl,rfl⟩) Y Y Y (ne_beq (by omega)) Y τ⟩)<|.as Y<|.z<|.ret ?_
  exact fin0 (.inr Y) (.one (svI (show (Int.tmod a b)=(remN a b) by (rw [rem_end c0.1]))) .nil) (.dd .nil) Y
end Go.Proofs

namespace Go.Proofs
open Go Go.Proofs Go.Ev

theorem e34:Eq2Ok Tryz.prog 34 2 .i64:=⟨by kernel_rfl,by kernel_rfl,by kernel_rfl,by kernel_rfl,Tryz.underlying2⟩
theorem c_one (n:Int):Trip Tryz.prog 109 [(false,1)] ([.v (.int .i64 (n))]) [(true,2)] [.v (.int .i64 ((Iv.mk n n).lo)),.v (.int .i64 ((Iv.mk n n).hi))] []:=by
 refine Trip.of Tryz.func109 (by decide) (c:=_) Y Y (Nat.le_of_ble_eq_true Y) Y (AftOk.nil _)<|.seq<|.rs fun k1=>.g (fun _ τ=>⟨_,.alloc (.no Y) Y z34 Y Y Y τ⟩)<|.z<|.seq<|.rs fun k2=>.mv Y<|.mv Y ?_
 refine .g (fun _ τ=>⟨_,.build (.no Y) Y z34 Y p34 Y Y Y Y τ⟩)<|.g (fun _ τ=>⟨_,.store (.no Y) Y t34 Y Y Y Y Y Y Y Y Y τ⟩)<|.z<|.ret ?_
 have e3:(n)=((Iv.mk n n).lo):=by rfl
 have e4:(n)=((Iv.mk n n).hi):=by rfl
 have hc5:=eq2 (fun z1 z2=>some (k1,k2+1+1+1,O.box [.d (.v (.int .i64 (z1))),.d (.v (.int .i64 (z2)))])) e3 e4
 exact fin0 (.inr Y) (.cell (cells:=[.d (.v (.int .i64 ((Iv.mk n n).lo))),.d (.v (.int .i64 ((Iv.mk n n).hi)))]) Y hc5 t34 Y Y .nil) (.dd (.dd .nil)) Y
theorem c_truthOf (f:Bool) (h:Bool):Trip Tryz.prog 156 [(false,1),(false,1)] ([.v (.bool (f))]++[.v (.bool (h))]) [(true,2)] [.v (.int .i64 ((truthI f h).lo)),.v (.int .i64 ((truthI f h).hi))] []:=by
 refine Trip.of Tryz.func156 (by decide) (c:=_) Y Y (Nat.le_of_ble_eq_true Y) Y (AftOk.nil _)<|.seq<|.rs fun k1=>.g (fun _ τ=>⟨_,.alloc (.no Y) Y z34 Y Y Y τ⟩)<|.z<|.seq<|.block<|.seq<|.rs fun k2=>?_
 refine .mv Y<|.un Y<|.as Y<|.z ?_
 refine .cond (t:=!f) Y (fun c0=>?_) (fun c0=>?_)
 ·have c0:=(nT id) c0
  refine .seq<|.rs fun k3=>.c0 (c_one 1) Y (.dd .nil) (.own [8,0] (.own [8,1] .nil)) Y<|.g (fun _ τ=>⟨_,.store (.no Y) Y t34 Y Y Y Y Y Y Y Y Y τ⟩)<|.z<|.ret ?_
  have e4:((Iv.mk 1 1).lo)=((truthI f h).lo):=by (unfold truthI; first | (rw [if_pos c0]; done) | (rw [if_neg (by rw [c0]; decide),if_pos c1]; done) | (rw [if_neg (by rw [c0]; decide),if_neg (by rw [c1]; decide)]; done) | (simp_all; done))
  have e5:((Iv.mk 1 1).hi)=((truthI f h).hi):=by (unfold truthI; first | (rw [if_pos c0]; done) | (rw [if_neg (by rw [c0]; decide),if_pos c1]; done) | (rw [if_neg (by rw [c0]; decide),if_neg (by rw [c1]; decide)]; done) | (simp_all; done))
  have hc6:=eq2 (fun z1 z2=>some (k1,k3+1,O.box [.d (.v (.int .i64 (z1))),.d (.v (.int .i64 (z2)))])) e4 e5
  exact fin0 (.inr Y) (.cell (cells:=[.d (.v (.int .i64 ((truthI f h).lo))),.d (.v (.int .i64 ((truthI f h).hi)))]) Y hc6 t34 Y Y .nil) (.dd (.dd .nil)) Y
 ·have c0:=(nF id) c0
  refine .seq<|.rs fun k7=>.mv Y<|.un Y<|.as Y<|.z ?_
  refine .cond (t:=!h) Y (fun c1=>?_) (fun c1=>?_)
  ·have c1:=(nT id) c1
   refine .seq<|.rs fun k8=>.c0 (c_one 0) Y (.dd .nil) (.own [12,0] (.own [12,1] .nil)) Y<|.g (fun _ τ=>⟨_,.store (.no Y) Y t34 Y Y Y Y Y Y Y Y Y τ⟩)<|.z<|.ret ?_
   have e9:((Iv.mk 0 0).lo)=((truthI f h).lo):=by (unfold truthI; first | (rw [if_pos c0]; done) | (rw [if_neg (by rw [c0]; decide),if_pos c1]; done) | (rw [if_neg (by rw [c0]; decide),if_neg (by rw [c1]; decide)]; done) | (simp_all; done))
   have e10:((Iv.mk 0 0).hi)=((truthI f h).hi):=by (unfold truthI; first | (rw [if_pos c0]; done) | (rw [if_neg (by rw [c0]; decide),if_pos c1]; done) | (rw [if_neg (by rw [c0]; decide),if_neg (by rw [c1]; decide)]; done) | (simp_all; done))
   have hc11:=eq2 (fun z1 z2=>some (k1,k8+1,O.box [.d (.v (.int .i64 (z1))),.d (.v (.int .i64 (z2)))])) e9 e10
   exact fin0 (.inr Y) (.cell (cells:=[.d (.v (.int .i64 ((truthI f h).lo))),.d (.v (.int .i64 ((truthI f h).hi)))]) Y hc11 t34 Y Y .nil) (.dd (.dd .nil)) Y
  ·have c1:=(nF id) c1
   refine .skip<|.seq<|.rs fun k12=>.g (fun _ τ=>⟨_,.build (.no Y) Y z34 Y p34 Y Y Y Y τ⟩)<|.g (fun _ τ=>⟨_,.store (.no Y) Y t34 Y Y Y Y Y Y Y Y Y τ⟩)<|.z<|.ret ?_
   have e13:(0)=((truthI f h).lo):=by (unfold truthI; first | (rw [if_pos c0]; done) | (rw [if_neg (by rw [c0]; decide),if_pos c1]; done) | (rw [if_neg (by rw [c0]; decide),if_neg (by rw [c1]; decide)]; done) | (simp_all; done))
   have e14:(1)=((truthI f h).hi):=by (unfold truthI; first | (rw [if_pos c0]; done) | (rw [if_neg (by rw [c0]; decide),if_pos c1]; done) | (rw [if_neg (by rw [c0]; decide),if_neg (by rw [c1]; decide)]; done) | (simp_all; done))
   have hc15:=eq2 (fun z1 z2=>some (k1,k12+1,O.box [.d (.v (.int .i64 (z1))),.d (.v (.int .i64 (z2)))])) e13 e14
   exact fin0 (.inr Y) (.cell (cells:=[.d (.v (.int .i64 ((truthI f h).lo))),.d (.v (.int .i64 ((truthI f h).hi)))]) Y hc15 t34 Y Y .nil) (.dd (.dd .nil)) Y
theorem c_opposite (op:Int):Trip Tryz.prog 158 [(false,1)] ([.v (.int .i64 (op))]) [(false,1)] [.v (.int .i64 (oppN op))] []:=by
 refine Trip.of Tryz.func158 (by decide) (c:=_) Y Y (Nat.le_of_ble_eq_true Y) Y (AftOk.nil _)<|.seq<|.rs fun k1=>.as Y<|.z<|.seq<|.seq<|.rs fun k2=>.mv Y ?_
 refine .z<|.block<|.seq<|.rs fun k3=>.bi Y<|.as Y<|.z ?_
 refine .cond (t:=op == 13) Y (fun c0=>?_) (fun c0=>?_)
 ·have c0:=(by simpa using c0:op=13)
  refine .seq<|.rs fun k4=>.as Y<|.z<|.ret ?_
  exact fin0 (.inr Y) (.one (svI (show (18)=(oppN op) by (unfold oppN; simp_all))) .nil) (.dd .nil) Y
 ·have c0:=(by simpa using c0:¬ (op=13))
  refine .seq<|.rs fun k6=>.bi Y<|.as Y<|.z ?_
  refine .cond (t:=op == 14) Y (fun c1=>?_) (fun c1=>?_)
  ·have c1:=(by simpa using c1:op=14)
   refine .seq<|.rs fun k7=>.as Y<|.z<|.ret ?_
   exact fin0 (.inr Y) (.one (svI (show (17)=(oppN op) by (unfold oppN; simp_all))) .nil) (.dd .nil) Y
  ·have c1:=(by simpa using c1:¬ (op=14))
   refine .seq<|.rs fun k9=>.bi Y<|.as Y<|.z ?_
   refine .cond (t:=op == 15) Y (fun c2=>?_) (fun c2=>?_)
   ·have c2:=(by simpa using c2:op=15)
    refine .seq<|.rs fun k10=>.as Y<|.z<|.ret ?_
    exact fin0 (.inr Y) (.one (svI (show (16)=(oppN op) by (unfold oppN; simp_all))) .nil) (.dd .nil) Y
   ·have c2:=(by simpa using c2:¬ (op=15))
    refine .seq<|.rs fun k12=>.bi Y<|.as Y<|.z ?_
    refine .cond (t:=op == 16) Y (fun c3=>?_) (fun c3=>?_)
    ·have c3:=(by simpa using c3:op=16)
     refine .seq<|.rs fun k13=>.as Y<|.z<|.ret ?_
     exact fin0 (.inr Y) (.one (svI (show (15)=(oppN op) by (unfold oppN; simp_all))) .nil) (.dd .nil) Y
    ·have c3:=(by simpa using c3:¬ (op=16))
     refine .seq<|.rs fun k15=>.bi Y<|.as Y<|.z ?_
     refine .cond (t:=op == 17) Y (fun c4=>?_) (fun c4=>?_)
     ·have c4:=(by simpa using c4:op=17)
      refine .seq<|.rs fun k16=>.as Y<|.z<|.ret ?_
      exact fin0 (.inr Y) (.one (svI (show (14)=(oppN op) by (unfold oppN; simp_all))) .nil) (.dd .nil) Y
     ·have c4:=(by simpa using c4:¬ (op=17))
      refine .skip<|.seq<|.rs fun k18=>.as Y<|.z<|.ret ?_
      exact fin0 (.inr Y) (.one (svI (show (13)=(oppN op) by (unfold oppN; simp_all))) .nil) (.dd .nil) Y
theorem c_turned (op:Int):Trip Tryz.prog 177 [(false,1)] ([.v (.int .i64 (op))]) [(false,1)] [.v (.int .i64 (turnN op))] []:=by
 refine Trip.of Tryz.func177 (by decide) (c:=_) Y Y (Nat.le_of_ble_eq_true Y) Y (AftOk.nil _)<|.seq<|.rs fun k1=>.as Y<|.z<|.seq<|.seq<|.rs fun k2=>.mv Y ?_
 refine .z<|.block<|.seq<|.rs fun k3=>.bi Y<|.as Y<|.z ?_
 refine .cond (t:=op == 13) Y (fun c0=>?_) (fun c0=>?_)
 ·have c0:=(by simpa using c0:op=13)
  refine .seq<|.rs fun k4=>.as Y<|.z<|.ret ?_
  exact fin0 (.inr Y) (.one (svI (show (17)=(turnN op) by (unfold turnN; simp_all))) .nil) (.dd .nil) Y
 ·have c0:=(by simpa using c0:¬ (op=13))
  refine .seq<|.rs fun k6=>.bi Y<|.as Y<|.z ?_
  refine .cond (t:=op == 14) Y (fun c1=>?_) (fun c1=>?_)
  ·have c1:=(by simpa using c1:op=14)
   refine .seq<|.rs fun k7=>.as Y<|.z<|.ret ?_
   exact fin0 (.inr Y) (.one (svI (show (18)=(turnN op) by (unfold turnN; simp_all))) .nil) (.dd .nil) Y
  ·have c1:=(by simpa using c1:¬ (op=14))
   refine .seq<|.rs fun k9=>.bi Y<|.as Y<|.z ?_
   refine .cond (t:=op == 17) Y (fun c2=>?_) (fun c2=>?_)
   ·have c2:=(by simpa using c2:op=17)
    refine .seq<|.rs fun k10=>.as Y<|.z<|.ret ?_
    exact fin0 (.inr Y) (.one (svI (show (13)=(turnN op) by (unfold turnN; simp_all))) .nil) (.dd .nil) Y
   ·have c2:=(by simpa using c2:¬ (op=17))
    refine .seq<|.rs fun k12=>.bi Y<|.as Y<|.z ?_
    refine .cond (t:=op == 18) Y (fun c3=>?_) (fun c3=>?_)
    ·have c3:=(by simpa using c3:op=18)
     refine .seq<|.rs fun k13=>.as Y<|.z<|.ret ?_
     exact fin0 (.inr Y) (.one (svI (show (14)=(turnN op) by (unfold turnN; simp_all))) .nil) (.dd .nil) Y
    ·have c3:=(by simpa using c3:¬ (op=18))
     refine .skip<|.seq<|.rs fun k15=>.mv Y<|.as Y<|.z<|.ret ?_
     exact fin0 (.inr Y) (.one (svI (show (op)=(turnN op) by (unfold turnN; simp_all))) .nil) (.dd .nil) Y
theorem c_mayHoldR (N:Nat):∀ (op:Int) (a:Iv) (b:Iv) (ho:13≤op∧op≤18) (hN:(op - 16).toNat < N),Trip Tryz.prog 157 [(false,1),(true,2),(true,2)] ([.v (.int .i64 (op))]++Iv.c a++Iv.c b) [(false,1)] [.v (.bool (mayB op a b))] []:=by
 induction N with
 | zero=>intros; omega
 | succ N ih =>
 intro op a b ho hN
 refine Trip.of Tryz.func157 (by decide) (c:=_) Y Y (Nat.le_of_ble_eq_true Y) Y (AftOk.nil _)<|.seq<|.rs fun k1=>.g (fun _ τ=>⟨_,.box (.no Y) Y Y Y Y Y τ⟩)<|.g (fun _ τ=>⟨_,.box (.no Y) Y Y Y Y Y τ⟩)<|.as Y<|.z<|.seq<|.seq ?_
 refine .rs fun k2=>.mv Y<|.z<|.block<|.seq<|.rs fun k3=>.bi Y<|.as Y<|.z ?_
 refine .cond (t:=op == 13) Y (fun c0=>?_) (fun c0=>?_)
 ·have c0:=(by simpa using c0:op=13)
  refine .seq<|.rs fun k4=>.fp t34 t2 Y<|.ld t2 Y (.ptr _ _ _ _ _ Y) Y<|.fp t34 t2 Y<|.ld t2 Y (.ptr _ _ _ _ _ Y) Y<|.bi Y<|.as Y<|.z ?_
  refine .ret ?_
  exact fin0 (.inr Y) (.one (svB (show (decide (a.lo < b.hi))=(mayB op a b) by (first | (unfold mayB; first | (rw [if_pos c0]; done) | (rw [if_neg c0,if_pos c1]; done) | (rw [if_neg c0,if_neg c1,if_pos c2]; done)) | (unfold mayB; rw [if_neg c0,if_neg c1,if_neg c2,if_pos c3]; rw [Bool.eq_iff_iff]; simp; done) | (unfold mayB; rw [if_neg c0,if_neg c1,if_neg c2,if_pos c3]; rw [Bool.eq_iff_iff]; simp; omega) | (rw [turn_may (by omega)])))) .nil) (.dd .nil) Y
 ·have c0:=(by simpa using c0:¬ (op=13))
  refine .seq<|.rs fun k6=>.bi Y<|.as Y<|.z ?_
  refine .cond (t:=op == 14) Y (fun c1=>?_) (fun c1=>?_)
  ·have c1:=(by simpa using c1:op=14)
   refine .seq<|.rs fun k7=>.fp t34 t2 Y<|.ld t2 Y (.ptr _ _ _ _ _ Y) Y<|.fp t34 t2 Y<|.ld t2 Y (.ptr _ _ _ _ _ Y) Y<|.bi Y<|.as Y<|.z ?_
   refine .ret ?_
   exact fin0 (.inr Y) (.one (svB (show (decide (a.lo≤b.hi))=(mayB op a b) by (first | (unfold mayB; first | (rw [if_pos c0]; done) | (rw [if_neg c0,if_pos c1]; done) | (rw [if_neg c0,if_neg c1,if_pos c2]; done)) | (unfold mayB; rw [if_neg c0,if_neg c1,if_neg c2,if_pos c3]; rw [Bool.eq_iff_iff]; simp; done) | (unfold mayB; rw [if_neg c0,if_neg c1,if_neg c2,if_pos c3]; rw [Bool.eq_iff_iff]; simp; omega) | (rw [turn_may (by omega)])))) .nil) (.dd .nil) Y
  ·have c1:=(by simpa using c1:¬ (op=14))
   refine .seq<|.rs fun k9=>.bi Y<|.as Y<|.z ?_
   refine .cond (t:=op == 15) Y (fun c2=>?_) (fun c2=>?_)
   ·have c2:=(by simpa using c2:op=15)
    refine .seq ?_
    refine .reg (X:=Unit) (fun ζ=>.of [(6,.one (.d (.v (.bool ((decide (a.lo≤b.hi)&&decide (b.lo≤a.hi)))))))] []) [⟨[4],some 24,[],[]⟩,⟨[24],some 25,[[4]],[]⟩,⟨[5],some 26,[],[]⟩,⟨[26],some 27,[[5]],[]⟩,⟨[25,27],some 28,[],[]⟩,⟨[28],some 29,[],[]⟩,⟨[29,5],some 30,[],[]⟩,⟨[29,30],some 31,[[5]],[]⟩,⟨[29,4],some 32,[],[]⟩,⟨[29,32],some 33,[[4]],[]⟩,⟨[29,31,33],some 34,[],[]⟩,⟨[29,34],some 35,[],[]⟩,⟨[35],some 6,[],[]⟩] (fun k10=>?_) ?_
    ·skip
     refine .fieldAddrP (.no Y) Y t34 Y Y t2 Y Y Y Y<|.load (.no Y) Y t2 Y Y (.ptr _ _ _ _ _ Y) Y Y Y Y<|.fieldAddrP (.no Y) Y t34 Y Y t2 Y Y Y Y<|.load (.no Y) Y t2 Y Y (.ptr _ _ _ _ _ Y) Y Y Y Y<|.bin (.no Y) Y Y Y Y Y Y<|.moveB (.no Y) Y Y Y Y fun b11 g7_5=>?_
     cases b11
     ·skip
      refine .off Y Y Y Y Y Y Y<|.off Y Y Y Y Y Y Y<|.off Y Y Y Y Y Y Y<|.off Y Y Y Y Y Y Y<|.off Y Y Y Y Y Y Y<|.pick (.no Y) Y Y Y Y Y<|.assign (.no Y) Y Y Y Y ?_
      exact .fin () (.of (.cons (svB (show (false)=((decide (a.lo≤b.hi)&&decide (b.lo≤a.hi))) by first | (simp only [g7_5,Bool.true_or,Bool.false_or,Bool.true_and,Bool.false_and,Bool.not_true,Bool.not_false]; done) | (simp [g7_5]; done) | (exfalso; simp_all; done))) .nil) .nil)
     ·skip
      refine .fieldAddrP (.on Y Y Y Y Y) Y t34 Y Y t2 Y Y Y Y<|.load (.on Y Y Y Y Y) Y t2 Y Y (.ptr _ _ _ _ _ Y) Y Y Y Y<|.fieldAddrP (.on Y Y Y Y Y) Y t34 Y Y t2 Y Y Y Y<|.load (.on Y Y Y Y Y) Y t2 Y Y (.ptr _ _ _ _ _ Y) Y Y Y Y<|.bin (.on Y Y Y Y Y) Y Y Y Y Y Y<|.pick (.no Y) Y Y Y Y Y<|.assign (.no Y) Y Y Y Y ?_
      exact .fin () (.of (.cons (svB (show (decide (b.lo≤a.hi))=((decide (a.lo≤b.hi)&&decide (b.lo≤a.hi))) by first | (simp only [g7_5,Bool.true_or,Bool.false_or,Bool.true_and,Bool.false_and,Bool.not_true,Bool.not_false]; done) | (simp [g7_5]; done) | (exfalso; simp_all; done))) .nil) .nil)
    intro _
    refine .ret ?_
    exact fin0 (.inr Y) (.one (svB (show ((decide (a.lo≤b.hi)&&decide (b.lo≤a.hi)))=(mayB op a b) by (first | (unfold mayB; first | (rw [if_pos c0]; done) | (rw [if_neg c0,if_pos c1]; done) | (rw [if_neg c0,if_neg c1,if_pos c2]; done)) | (unfold mayB; rw [if_neg c0,if_neg c1,if_neg c2,if_pos c3]; rw [Bool.eq_iff_iff]; simp; done) | (unfold mayB; rw [if_neg c0,if_neg c1,if_neg c2,if_pos c3]; rw [Bool.eq_iff_iff]; simp; omega) | (rw [turn_may (by omega)])))) .nil) (.dd .nil) Y
   ·have c2:=(by simpa using c2:¬ (op=15))
    refine .seq<|.rs fun k13=>.bi Y<|.as Y<|.z ?_
    refine .cond (t:=op == 16) Y (fun c3=>?_) (fun c3=>?_)
    ·have c3:=(by simpa using c3:op=16)
     refine .seq ?_
     refine .reg (X:=Unit) (fun ζ=>.of [(6,.one (.d (.v (.bool (((a.lo != a.hi||b.lo != b.hi)||a.lo != b.lo))))))] []) [⟨[4],some 38,[],[]⟩,⟨[38],some 39,[[4]],[]⟩,⟨[4],some 40,[],[]⟩,⟨[40],some 41,[[4]],[]⟩,⟨[39,41],some 42,[],[]⟩,⟨[42],some 43,[],[]⟩,⟨[43,5],some 44,[],[]⟩,⟨[43,44],some 45,[[5]],[]⟩,⟨[43,5],some 46,[],[]⟩,⟨[43,46],some 47,[[5]],[]⟩,⟨[43,45,47],some 48,[],[]⟩,⟨[43,48],some 49,[],[]⟩,⟨[49],some 50,[],[]⟩,⟨[50,4],some 51,[],[]⟩,⟨[50,51],some 52,[[4]],[]⟩,⟨[50,5],some 53,[],[]⟩,⟨[50,53],some 54,[[5]],[]⟩,⟨[50,52,54],some 55,[],[]⟩,⟨[50,55],some 56,[],[]⟩,⟨[56],some 6,[],[]⟩] (fun k14=>?_) ?_
     ·skip
      refine .fieldAddrP (.no Y) Y t34 Y Y t2 Y Y Y Y<|.load (.no Y) Y t2 Y Y (.ptr _ _ _ _ _ Y) Y Y Y Y<|.fieldAddrP (.no Y) Y t34 Y Y t2 Y Y Y Y<|.load (.no Y) Y t2 Y Y (.ptr _ _ _ _ _ Y) Y Y Y Y<|.bin (.no Y) Y Y Y Y Y Y<|.moveB (.no Y) Y Y Y Y fun b15 g9_5=>?_
      cases b15
      ·skip
       refine .fieldAddrP (.on Y Y Y Y Y) Y t34 Y Y t2 Y Y Y Y<|.load (.on Y Y Y Y Y) Y t2 Y Y (.ptr _ _ _ _ _ Y) Y Y Y Y<|.fieldAddrP (.on Y Y Y Y Y) Y t34 Y Y t2 Y Y Y Y<|.load (.on Y Y Y Y Y) Y t2 Y Y (.ptr _ _ _ _ _ Y) Y Y Y Y<|.bin (.on Y Y Y Y Y) Y Y Y Y Y Y<|.pick (.no Y) Y Y Y Y Y<|.moveB (.no Y) Y Y Y Y fun b16 g9_12=>?_
       cases b16
       ·skip
        refine .fieldAddrP (.on Y Y Y Y Y) Y t34 Y Y t2 Y Y Y Y<|.load (.on Y Y Y Y Y) Y t2 Y Y (.ptr _ _ _ _ _ Y) Y Y Y Y<|.fieldAddrP (.on Y Y Y Y Y) Y t34 Y Y t2 Y Y Y Y<|.load (.on Y Y Y Y Y) Y t2 Y Y (.ptr _ _ _ _ _ Y) Y Y Y Y<|.bin (.on Y Y Y Y Y) Y Y Y Y Y Y<|.pick (.no Y) Y Y Y Y Y<|.assign (.no Y) Y Y Y Y ?_
        exact .fin () (.of (.cons (svB (show (a.lo != b.lo)=(((a.lo != a.hi||b.lo != b.hi)||a.lo != b.lo)) by first | (simp only [g9_5,g9_12,Bool.true_or,Bool.false_or,Bool.true_and,Bool.false_and,Bool.not_true,Bool.not_false]; done) | (simp [g9_5,g9_12]; done) | (exfalso; simp_all; done))) .nil) .nil)
       ·skip
        refine .off Y Y Y Y Y Y Y<|.off Y Y Y Y Y Y Y<|.off Y Y Y Y Y Y Y<|.off Y Y Y Y Y Y Y<|.off Y Y Y Y Y Y Y<|.pick (.no Y) Y Y Y Y Y<|.assign (.no Y) Y Y Y Y ?_
        exact .fin () (.of (.cons (svB (show (true)=(((a.lo != a.hi||b.lo != b.hi)||a.lo != b.lo)) by first | (simp only [g9_5,g9_12,Bool.true_or,Bool.false_or,Bool.true_and,Bool.false_and,Bool.not_true,Bool.not_false]; done) | (simp [g9_5,g9_12]; done) | (exfalso; simp_all; done))) .nil) .nil)
      ·skip
       refine .off Y Y Y Y Y Y Y<|.off Y Y Y Y Y Y Y<|.off Y Y Y Y Y Y Y<|.off Y Y Y Y Y Y Y<|.off Y Y Y Y Y Y Y<|.pick (.no Y) Y Y Y Y Y<|.move (.no Y) Y Y Y Y<|.off Y Y Y Y Y Y Y<|.off Y Y Y Y Y Y Y ?_
       refine .off Y Y Y Y Y Y Y<|.off Y Y Y Y Y Y Y<|.off Y Y Y Y Y Y Y<|.pick (.no Y) Y Y Y Y Y<|.assign (.no Y) Y Y Y Y ?_
       exact .fin () (.of (.cons (svB (show (true)=(((a.lo != a.hi||b.lo != b.hi)||a.lo != b.lo)) by first | (simp only [g9_5,Bool.true_or,Bool.false_or,Bool.true_and,Bool.false_and,Bool.not_true,Bool.not_false]; done) | (simp [g9_5]; done) | (exfalso; simp_all; done))) .nil) .nil)
     intro _
     refine .ret ?_
     exact fin0 (.inr Y) (.one (svB (show (((a.lo != a.hi||b.lo != b.hi)||a.lo != b.lo))=(mayB op a b) by (first | (unfold mayB; first | (rw [if_pos c0]; done) | (rw [if_neg c0,if_pos c1]; done) | (rw [if_neg c0,if_neg c1,if_pos c2]; done)) | (unfold mayB; rw [if_neg c0,if_neg c1,if_neg c2,if_pos c3]; rw [Bool.eq_iff_iff]; simp; done) | (unfold mayB; rw [if_neg c0,if_neg c1,if_neg c2,if_pos c3]; rw [Bool.eq_iff_iff]; simp; omega) | (rw [turn_may (by omega)])))) .nil) (.dd .nil) Y
    ·have c3:=(by simpa using c3:¬ (op=16))
     refine .skip<|.seq ?_
     refine .regD (X:=Unit) (by kernel_rfl) (fun ζ=>.of [(6,.one (.d (.v (.bool (mayB (turnN op) b a)))))] []) [⟨[0],some 57,[],[]⟩,⟨[57],some 58,[],[]⟩,⟨[5],some 59,[[5]],[]⟩,⟨[4],some 60,[[4]],[]⟩,⟨[58,59,60],some 61,[],[]⟩,⟨[61],some 6,[],[]⟩] (by kernel_rfl) (fun k18=>?_) ?_
     ·skip
      refine .move (.no Y) Y Y Y Y<|.call (.no Y) Y [] [] (c_turned op) Y Y Y Y Y (.dd .nil) Y Y (fun h=>absurd Y h) (.own [58,0] .nil) (.nil) Y Y Y (by simp) Y Y Y<|.load (.no Y) Y t34 Y Y (.ptr _ _ _ _ _ Y) Y Y Y Y<|.load (.no Y) Y t34 Y Y (.ptr _ _ _ _ _ Y) Y Y Y Y<|.call (.no Y) Y [] [] (ih (turnN op) b a (by (have h9:=turn_in (op:=op) (by omega); omega)) (by (have h9:=turn_in (op:=op) (by omega); omega))) Y Y Y Y Y (.dd (.dd (.dd (.dd (.dd .nil))))) Y Y (fun h=>absurd Y h) (.own [61,0] .nil) (.nil) Y Y Y (by simp) Y Y Y<|.assign (.no Y) Y Y Y Y ?_
      exact .fin () (.of (.r Y) .nil)
     intro _
     refine .ret ?_
     exact fin0 (.inr Y) (.one (svB (show (mayB (turnN op) b a)=(mayB op a b) by (first | (unfold mayB; first | (rw [if_pos c0]; done) | (rw [if_neg c0,if_pos c1]; done) | (rw [if_neg c0,if_neg c1,if_pos c2]; done)) | (unfold mayB; rw [if_neg c0,if_neg c1,if_neg c2,if_pos c3]; rw [Bool.eq_iff_iff]; simp; done) | (unfold mayB; rw [if_neg c0,if_neg c1,if_neg c2,if_pos c3]; rw [Bool.eq_iff_iff]; simp; omega) | (rw [turn_may (by omega)])))) .nil) (.dd .nil) Y
theorem c_mayHold (op:Int) (a:Iv) (b:Iv) (ho:13≤op∧op≤18):Trip Tryz.prog 157 [(false,1),(true,2),(true,2)] ([.v (.int .i64 (op))]++Iv.c a++Iv.c b) [(false,1)] [.v (.bool (mayB op a b))] []:=c_mayHoldR ((op - 16).toNat+1) op a b ho (Nat.lt_succ_self _)
theorem c_IvCompare (op:Int) (a:Iv) (b:Iv):Trip Tryz.prog 118 [(false,1),(true,2),(true,2)] ([.v (.int .i64 (op))]++Iv.c a++Iv.c b) [(true,2)] [.v (.int .i64 ((cmV op a b).lo)),.v (.int .i64 ((cmV op a b).hi))] []:=by
 refine Trip.of Tryz.func118 (by decide) (c:=_) Y Y (Nat.le_of_ble_eq_true Y) Y (AftOk.nil _)<|.seq<|.rs fun k1=>.g (fun _ τ=>⟨_,.box (.no Y) Y Y Y Y Y τ⟩)<|.g (fun _ τ=>⟨_,.box (.no Y) Y Y Y Y Y τ⟩)<|.g (fun _ τ=>⟨_,.alloc (.no Y) Y z34 Y Y Y τ⟩)<|.z<|.seq<|.seq ?_
 refine .reg (X:=Unit) (fun ζ=>.of [(0,.one (.d (.v (.int .i64 (op))))),(4,.one (.ptr [4] (k1) 0)),(5,.one (.ptr [5] (k1+1) 0)),(6,.one (.ptr [6] (k1+1+1) 0)),(15,.one (.d (.v (.bool ((!(inR op 13 18)||!(Iv.ok a&&Iv.ok b)))))))] [([4],(k1,k1,.box [.d (.v (.int .i64 (a.lo))),.d (.v (.int .i64 (a.hi)))])),([5],(k1+1,k1+1,.box [.d (.v (.int .i64 (b.lo))),.d (.v (.int .i64 (b.hi)))])),([6],(k1+1+1,k1+1+1,.box [.d (.v (.int .i64 (0))),.d (.v (.int .i64 (0)))]))]) [⟨[0],some 7,[],[]⟩,⟨[7],some 8,[],[]⟩,⟨[8],some 9,[],[]⟩,⟨[9],some 10,[],[]⟩,⟨[10,4],some 11,[[4]],[]⟩,⟨[10,5],some 12,[[5]],[]⟩,⟨[10,11,12],some 13,[],[]⟩,⟨[10,13],some 14,[],[]⟩,⟨[10,14],some 15,[],[]⟩] (fun k2=>?_) ?_
 ·skip
  refine .move (.no Y) Y Y Y Y<|.call (.no Y) Y [] [] (c_within op 13 18) Y Y Y Y Y (.dd (.dd (.dd .nil))) Y Y (fun h=>absurd Y h) (.own [8,0] .nil) (.nil) Y Y Y (by simp) Y Y Y<|.un (.no Y) Y Y Y Y Y<|.moveB (.no Y) Y Y Y Y fun b3 g1_3=>?_
  cases b3
  ·skip
   refine .load (.on Y Y Y Y Y) Y t34 Y Y (.ptr _ _ _ _ _ Y) Y Y Y Y<|.load (.on Y Y Y Y Y) Y t34 Y Y (.ptr _ _ _ _ _ Y) Y Y Y Y<|.call (.on Y Y Y Y Y) Y [] [] (c_areIvs a b) Y Y Y Y Y (.dd (.dd (.dd (.dd .nil)))) Y Y (fun h=>absurd Y h) (.own [13,0] .nil) (.nil) Y Y Y (by simp) Y Y Y<|.un (.on Y Y Y Y Y) Y Y Y Y Y<|.pick (.no Y) Y Y Y Y Y ?_
   exact .fin () (.of (.cons Y (.cons Y (.cons Y (.cons Y (.cons (svB (show (!(Iv.ok a&&Iv.ok b))=((!(inR op 13 18)||!(Iv.ok a&&Iv.ok b))) by first | (simp only [g1_3,Bool.true_or,Bool.false_or,Bool.true_and,Bool.false_and,Bool.not_true,Bool.not_false]; done) | (simp [g1_3]; done) | (exfalso; simp_all; done))) .nil))))) (.r Y))
  ·skip
   refine .off Y Y Y Y Y Y Y<|.off Y Y Y Y Y Y Y<|.off Y Y Y Y Y Y Y<|.off Y Y Y Y Y Y Y<|.pick (.no Y) Y Y Y Y Y ?_
   exact .fin () (.of (.cons Y (.cons Y (.cons Y (.cons Y (.cons (svB (show (true)=((!(inR op 13 18)||!(Iv.ok a&&Iv.ok b))) by first | (simp only [g1_3,Bool.true_or,Bool.false_or,Bool.true_and,Bool.false_and,Bool.not_true,Bool.not_false]; done) | (simp [g1_3]; done) | (exfalso; simp_all; done))) .nil))))) (.r Y))
 intro _
 refine .cond (t:=(!(inR op 13 18)||!(Iv.ok a&&Iv.ok b))) Y (fun c0=>?_) (fun c0=>?_)
 ·have c0:=(oT (nT id) (nT (aF id id))) c0
  refine .seq<|.rs fun k4=>.g (fun _ τ=>⟨_,.build (.no Y) Y z34 Y p34 Y Y Y Y τ⟩)<|.g (fun _ τ=>⟨_,.store (.no Y) Y t34 Y Y Y Y Y Y Y Y Y τ⟩)<|.z<|.ret ?_
  have e5:(0)=((cmV op a b).lo):=by (first | (rw [cmV_no (cmB_no2 c0)]) | (rw [truthI_cm hcm]))
  have e6:(0)=((cmV op a b).hi):=by (first | (rw [cmV_no (cmB_no2 c0)]) | (rw [truthI_cm hcm]))
  have hc7:=eq2 (fun z1 z2=>some (k1+1+1,k4+1,O.box [.d (.v (.int .i64 (z1))),.d (.v (.int .i64 (z2)))])) e5 e6
  exact fin0 (.inr Y) (.cell (cells:=[.d (.v (.int .i64 ((cmV op a b).lo))),.d (.v (.int .i64 ((cmV op a b).hi)))]) Y hc7 t34 Y Y .nil) (.dd (.dd .nil)) Y
 ·have c0:=(oF (nF id) (nF (aT id id))) c0
  have hcm:=cmB_yes ⟨⟨c0.1,c0.2.1⟩,c0.2.2⟩
  have ⟨hg1,hg2,hg3⟩:=cm_get hcm
  refine .skip<|.seq ?_
  refine .regD (X:=Nat) (by kernel_rfl) (fun ζ=>.of [(6,.one (.ptr [6] (k1+1+1) 0))] [([6],(k1+1+1,ζ,.box [.d (.v (.int .i64 ((truthI (mayB (oppN op) a b) (mayB op a b)).lo))),.d (.v (.int .i64 ((truthI (mayB (oppN op) a b) (mayB op a b)).hi)))]))]) [⟨[0],some 17,[],[]⟩,⟨[17],some 18,[],[]⟩,⟨[4],some 19,[[4]],[]⟩,⟨[5],some 20,[[5]],[]⟩,⟨[18,19,20],some 21,[],[]⟩,⟨[0],some 22,[],[]⟩,⟨[4],some 23,[[4]],[]⟩,⟨[5],some 24,[[5]],[]⟩,⟨[22,23,24],some 25,[],[]⟩,⟨[21,25],some 26,[],[]⟩,⟨[6,26],none,[[6]],[[6]]⟩] (by kernel_rfl) (fun k8=>?_) ?_
  ·skip
   refine .move (.no Y) Y Y Y Y<|.call (.no Y) Y [] [] (c_opposite op) Y Y Y Y Y (.dd .nil) Y Y (fun h=>absurd Y h) (.own [18,0] .nil) (.nil) Y Y Y (by simp) Y Y Y<|.load (.no Y) Y t34 Y Y (.ptr _ _ _ _ _ Y) Y Y Y Y<|.load (.no Y) Y t34 Y Y (.ptr _ _ _ _ _ Y) Y Y Y Y<|.call (.no Y) Y [] [] (c_mayHold (oppN op) a b (by first | omega | exact opp_in (by omega))) Y Y Y Y Y (.dd (.dd (.dd (.dd (.dd .nil))))) Y Y (fun h=>absurd Y h) (.own [21,0] .nil) (.nil) Y Y Y (by simp) Y Y Y<|.move (.no Y) Y Y Y Y<|.load (.no Y) Y t34 Y Y (.ptr _ _ _ _ _ Y) Y Y Y Y<|.load (.no Y) Y t34 Y Y (.ptr _ _ _ _ _ Y) Y Y Y Y ?_
   refine .call (.no Y) Y [] [] (c_mayHold op a b (by first | omega | exact opp_in (by omega))) Y Y Y Y Y (.dd (.dd (.dd (.dd (.dd .nil))))) Y Y (fun h=>absurd Y h) (.own [25,0] .nil) (.nil) Y Y Y (by simp) Y Y Y<|.call (.no Y) Y [] [] (c_truthOf (mayB (oppN op) a b) (mayB op a b)) Y Y Y Y Y (.dd (.dd .nil)) Y Y (fun h=>absurd Y h) (.own [26,0] (.own [26,1] .nil)) (.nil) Y Y Y (by simp) Y Y Y<|.store (.no Y) Y t34 Y Y Y Y Y Y Y Y Y ?_
   exact .fin (k8+1+1+1+1+1+1+1+1+1+1) (.of (.r Y) (.r Y))
  intro g9
  refine .ret ?_
  have e10:((truthI (mayB (oppN op) a b) (mayB op a b)).lo)=((cmV op a b).lo):=by (first | (rw [cmV_no (cmB_no2 c0)]) | (rw [truthI_cm hcm]))
  have e11:((truthI (mayB (oppN op) a b) (mayB op a b)).hi)=((cmV op a b).hi):=by (first | (rw [cmV_no (cmB_no2 c0)]) | (rw [truthI_cm hcm]))
  have hc12:=eq2 (fun z1 z2=>some (k1+1+1,g9,O.box [.d (.v (.int .i64 (z1))),.d (.v (.int .i64 (z2)))])) e10 e11
  exact fin0 (.inr Y) (.cell (cells:=[.d (.v (.int .i64 ((cmV op a b).lo))),.d (.v (.int .i64 ((cmV op a b).hi)))]) Y hc12 t34 Y Y .nil) (.dd (.dd .nil)) Y
theorem c_l7Compares (op:Int):Trip Tryz.prog 141 [(false,1)] ([.v (.int .i64 (op))]) [(false,1)] [.v (.bool (inR op 13 18))] []:=by
 refine Trip.of Tryz.func141 (by decide) (c:=_) Y Y (Nat.le_of_ble_eq_true Y) Y (AftOk.nil _)<|.seq<|.rs fun k1=>.as Y<|.z<|.seq<|.rs fun k2=>.mv Y<|.c0 (c_l1In op 13 18) Y (.dd (.dd (.dd .nil))) (.own [4,0] .nil) Y ?_
 refine .as Y<|.z<|.ret ?_
 exact fin0 (.inr Y) (.one Y .nil) (.dd .nil) Y
theorem c_l7Not (op:Int) (ho:13≤op∧op≤18):Trip Tryz.prog 144 [(false,1)] ([.v (.int .i64 (op))]) [(false,1)] [.v (.int .i64 (oppN op))] []:=by
 refine Trip.of Tryz.func144 (by decide) (c:=_) Y Y (Nat.le_of_ble_eq_true Y) Y (AftOk.nil _)<|.seq<|.rs fun k1=>.as Y<|.z<|.seq<|.rs fun k2=>.g (fun _ τ=>⟨_,.buildSlice (.no Y) Y (els:=[[.v (.int .i64 (18))],[.v (.int .i64 (17))],[.v (.int .i64 (16))],[.v (.int .i64 (15))],[.v (.int .i64 (14))],[.v (.int .i64 (13))]]) t62 Y z2 Y Y Y Y Y Y Y Y (by simp [i2]) (.cons _ _ _ _ _ _ (.d _) (.cons _ _ _ _ _ _ (.d _) (.cons _ _ _ _ _ _ (.d _) (.cons _ _ _ _ _ _ (.d _) (.cons _ _ _ _ _ _ (.d _) (.cons _ _ _ _ _ _ (.d _) .nil)))))) Y Y Y τ⟩)<|.mv Y ?_
 refine .g (fun _ τ=>⟨_,.binN (.no Y) Y (show IntKind.wrap .i64 (op - 13)=op - 13 by (exact wrap_le (by omega) (by omega))) Y Y Y Y Y τ⟩)<|.g (fun _ τ=>⟨_,.indexAddr (.no Y) Y ((op - 13).toNat) t62 Y t2 Y Y Y (.ref _ _ _ _ _ Y) Y Y (by omega) (map_get (c:=i64c) (L:=[18,17,16,15,14,13]) (by show _ < 6; omega)) Y Y τ⟩)<|.ld t2 Y (.eptr _ _ _ _ _ _ _ _ _ Y (map_get (c:=i64c) (L:=[18,17,16,15,14,13]) (by show _ < 6; omega))) Y<|.as Y<|.z<|.ret ?_
 exact fin0 (.inr Y) (.one (svI (show (([18,17,16,15,14,13]).getD ((op - 13).toNat) default)=(oppN op) by exact opp_list ho)) .nil) (.dd .nil) Y
theorem c_l7All (op:Int) (a:Iv) (b:Iv) (ho:13≤op∧op≤18):Trip Tryz.prog 143 [(false,1),(true,2),(true,2)] ([.v (.int .i64 (op))]++Iv.c a++Iv.c b) [(false,1)] [.v (.bool (allB op a b))] []:=by
 refine Trip.of Tryz.func143 (by decide) (c:=_) Y Y (Nat.le_of_ble_eq_true Y) Y (AftOk.nil _)<|.seq<|.rs fun k1=>.g (fun _ τ=>⟨_,.box (.no Y) Y Y Y Y Y τ⟩)<|.g (fun _ τ=>⟨_,.box (.no Y) Y Y Y Y Y τ⟩)<|.as Y<|.z<|.seq<|.seq ?_
 refine .rs fun k2=>.mv Y<|.z<|.block<|.seq<|.rs fun k3=>.bi Y<|.as Y<|.z ?_
 refine .cond (t:=op == 13) Y (fun c0=>?_) (fun c0=>?_)
 ·have c0:=(by simpa using c0:op=13)
  refine .seq<|.rs fun k4=>.fp t34 t2 Y<|.ld t2 Y (.ptr _ _ _ _ _ Y) Y<|.fp t34 t2 Y<|.ld t2 Y (.ptr _ _ _ _ _ Y) Y<|.bi Y<|.as Y<|.z ?_
  refine .ret ?_
  exact fin0 (.inr Y) (.one (svB (show (decide (a.hi < b.lo))=(allB op a b) by (rw [all_is ho]; first | (rw [if_pos c0]; done) | (rw [if_neg c0,if_pos c1]; done) | (rw [if_neg c0,if_neg c1,if_pos c2]; rw [Bool.eq_iff_iff]; simp; omega) | (rw [if_neg c0,if_neg c1,if_neg c2,if_pos c3]; done) | (rw [if_neg c0,if_neg c1,if_neg c2,if_neg c3,if_pos c4]; done) | (rw [if_neg c0,if_neg c1,if_neg c2,if_neg c3,if_neg c4]; done)))) .nil) (.dd .nil) Y
 ·have c0:=(by simpa using c0:¬ (op=13))
  refine .seq<|.rs fun k6=>.bi Y<|.as Y<|.z ?_
  refine .cond (t:=op == 14) Y (fun c1=>?_) (fun c1=>?_)
  ·have c1:=(by simpa using c1:op=14)
   refine .seq<|.rs fun k7=>.fp t34 t2 Y<|.ld t2 Y (.ptr _ _ _ _ _ Y) Y<|.fp t34 t2 Y<|.ld t2 Y (.ptr _ _ _ _ _ Y) Y<|.bi Y<|.as Y<|.z ?_
   refine .ret ?_
   exact fin0 (.inr Y) (.one (svB (show (decide (a.hi≤b.lo))=(allB op a b) by (rw [all_is ho]; first | (rw [if_pos c0]; done) | (rw [if_neg c0,if_pos c1]; done) | (rw [if_neg c0,if_neg c1,if_pos c2]; rw [Bool.eq_iff_iff]; simp; omega) | (rw [if_neg c0,if_neg c1,if_neg c2,if_pos c3]; done) | (rw [if_neg c0,if_neg c1,if_neg c2,if_neg c3,if_pos c4]; done) | (rw [if_neg c0,if_neg c1,if_neg c2,if_neg c3,if_neg c4]; done)))) .nil) (.dd .nil) Y
  ·have c1:=(by simpa using c1:¬ (op=14))
   refine .seq<|.rs fun k9=>.bi Y<|.as Y<|.z ?_
   refine .cond (t:=op == 15) Y (fun c2=>?_) (fun c2=>?_)
   ·have c2:=(by simpa using c2:op=15)
    refine .seq ?_
    refine .reg (X:=Unit) (fun ζ=>.of [(6,.one (.d (.v (.bool ((a.lo == a.hi&&(a.lo == b.lo&&a.hi == b.hi)))))))] []) [⟨[4],some 24,[],[]⟩,⟨[24],some 25,[[4]],[]⟩,⟨[4],some 26,[],[]⟩,⟨[26],some 27,[[4]],[]⟩,⟨[25,27],some 28,[],[]⟩,⟨[28],some 29,[],[]⟩,⟨[29,4],some 30,[[4]],[]⟩,⟨[29,5],some 31,[[5]],[]⟩,⟨[29,30,31],some 32,[],[]⟩,⟨[29,32],some 33,[],[]⟩,⟨[33],some 6,[],[]⟩] (fun k10=>?_) ?_
    ·skip
     refine .fieldAddrP (.no Y) Y t34 Y Y t2 Y Y Y Y<|.load (.no Y) Y t2 Y Y (.ptr _ _ _ _ _ Y) Y Y Y Y<|.fieldAddrP (.no Y) Y t34 Y Y t2 Y Y Y Y<|.load (.no Y) Y t2 Y Y (.ptr _ _ _ _ _ Y) Y Y Y Y<|.bin (.no Y) Y Y Y Y Y Y<|.moveB (.no Y) Y Y Y Y fun b11 g7_5=>?_
     cases b11
     ·skip
      refine .off Y Y Y Y Y Y Y<|.off Y Y Y Y Y Y Y<|.off Y Y Y Y Y Y Y<|.pick (.no Y) Y Y Y Y Y<|.assign (.no Y) Y Y Y Y ?_
      exact .fin () (.of (.cons (svB (show (false)=((a.lo == a.hi&&(a.lo == b.lo&&a.hi == b.hi))) by first | (simp only [g7_5,Bool.true_or,Bool.false_or,Bool.true_and,Bool.false_and,Bool.not_true,Bool.not_false]; done) | (simp [g7_5]; done) | (exfalso; simp_all; done))) .nil) .nil)
     ·skip
      refine .load (.on Y Y Y Y Y) Y t34 Y Y (.ptr _ _ _ _ _ Y) Y Y Y Y<|.load (.on Y Y Y Y Y) Y t34 Y Y (.ptr _ _ _ _ _ Y) Y Y Y Y<|.eq2 (.on Y Y Y Y Y) Y e34 t2 Y Y Y Y Y<|.pick (.no Y) Y Y Y Y Y<|.assign (.no Y) Y Y Y Y ?_
      exact .fin () (.of (.cons (svB (show ((a.lo == b.lo&&a.hi == b.hi))=((a.lo == a.hi&&(a.lo == b.lo&&a.hi == b.hi))) by first | (simp only [g7_5,Bool.true_or,Bool.false_or,Bool.true_and,Bool.false_and,Bool.not_true,Bool.not_false]; done) | (simp [g7_5]; done) | (exfalso; simp_all; done))) .nil) .nil)
    intro _
    refine .ret ?_
    exact fin0 (.inr Y) (.one (svB (show ((a.lo == a.hi&&(a.lo == b.lo&&a.hi == b.hi)))=(allB op a b) by (rw [all_is ho]; first | (rw [if_pos c0]; done) | (rw [if_neg c0,if_pos c1]; done) | (rw [if_neg c0,if_neg c1,if_pos c2]; rw [Bool.eq_iff_iff]; simp; omega) | (rw [if_neg c0,if_neg c1,if_neg c2,if_pos c3]; done) | (rw [if_neg c0,if_neg c1,if_neg c2,if_neg c3,if_pos c4]; done) | (rw [if_neg c0,if_neg c1,if_neg c2,if_neg c3,if_neg c4]; done)))) .nil) (.dd .nil) Y
   ·have c2:=(by simpa using c2:¬ (op=15))
    refine .seq<|.rs fun k13=>.bi Y<|.as Y<|.z ?_
    refine .cond (t:=op == 16) Y (fun c3=>?_) (fun c3=>?_)
    ·have c3:=(by simpa using c3:op=16)
     refine .seq ?_
     refine .reg (X:=Unit) (fun ζ=>.of [(6,.one (.d (.v (.bool ((decide (a.hi < b.lo)||decide (b.hi < a.lo)))))))] []) [⟨[4],some 36,[],[]⟩,⟨[36],some 37,[[4]],[]⟩,⟨[5],some 38,[],[]⟩,⟨[38],some 39,[[5]],[]⟩,⟨[37,39],some 40,[],[]⟩,⟨[40],some 41,[],[]⟩,⟨[41,5],some 42,[],[]⟩,⟨[41,42],some 43,[[5]],[]⟩,⟨[41,4],some 44,[],[]⟩,⟨[41,44],some 45,[[4]],[]⟩,⟨[41,43,45],some 46,[],[]⟩,⟨[41,46],some 47,[],[]⟩,⟨[47],some 6,[],[]⟩] (fun k14=>?_) ?_
     ·skip
      refine .fieldAddrP (.no Y) Y t34 Y Y t2 Y Y Y Y<|.load (.no Y) Y t2 Y Y (.ptr _ _ _ _ _ Y) Y Y Y Y<|.fieldAddrP (.no Y) Y t34 Y Y t2 Y Y Y Y<|.load (.no Y) Y t2 Y Y (.ptr _ _ _ _ _ Y) Y Y Y Y<|.bin (.no Y) Y Y Y Y Y Y<|.moveB (.no Y) Y Y Y Y fun b15 g9_5=>?_
      cases b15
      ·skip
       refine .fieldAddrP (.on Y Y Y Y Y) Y t34 Y Y t2 Y Y Y Y<|.load (.on Y Y Y Y Y) Y t2 Y Y (.ptr _ _ _ _ _ Y) Y Y Y Y<|.fieldAddrP (.on Y Y Y Y Y) Y t34 Y Y t2 Y Y Y Y<|.load (.on Y Y Y Y Y) Y t2 Y Y (.ptr _ _ _ _ _ Y) Y Y Y Y<|.bin (.on Y Y Y Y Y) Y Y Y Y Y Y<|.pick (.no Y) Y Y Y Y Y<|.assign (.no Y) Y Y Y Y ?_
       exact .fin () (.of (.cons (svB (show (decide (b.hi < a.lo))=((decide (a.hi < b.lo)||decide (b.hi < a.lo))) by first | (simp only [g9_5,Bool.true_or,Bool.false_or,Bool.true_and,Bool.false_and,Bool.not_true,Bool.not_false]; done) | (simp [g9_5]; done) | (exfalso; simp_all; done))) .nil) .nil)
      ·skip
       refine .off Y Y Y Y Y Y Y<|.off Y Y Y Y Y Y Y<|.off Y Y Y Y Y Y Y<|.off Y Y Y Y Y Y Y<|.off Y Y Y Y Y Y Y<|.pick (.no Y) Y Y Y Y Y<|.assign (.no Y) Y Y Y Y ?_
       exact .fin () (.of (.cons (svB (show (true)=((decide (a.hi < b.lo)||decide (b.hi < a.lo))) by first | (simp only [g9_5,Bool.true_or,Bool.false_or,Bool.true_and,Bool.false_and,Bool.not_true,Bool.not_false]; done) | (simp [g9_5]; done) | (exfalso; simp_all; done))) .nil) .nil)
     intro _
     refine .ret ?_
     exact fin0 (.inr Y) (.one (svB (show ((decide (a.hi < b.lo)||decide (b.hi < a.lo)))=(allB op a b) by (rw [all_is ho]; first | (rw [if_pos c0]; done) | (rw [if_neg c0,if_pos c1]; done) | (rw [if_neg c0,if_neg c1,if_pos c2]; rw [Bool.eq_iff_iff]; simp; omega) | (rw [if_neg c0,if_neg c1,if_neg c2,if_pos c3]; done) | (rw [if_neg c0,if_neg c1,if_neg c2,if_neg c3,if_pos c4]; done) | (rw [if_neg c0,if_neg c1,if_neg c2,if_neg c3,if_neg c4]; done)))) .nil) (.dd .nil) Y
    ·have c3:=(by simpa using c3:¬ (op=16))
     refine .seq<|.rs fun k17=>.bi Y<|.as Y<|.z ?_
     refine .cond (t:=op == 17) Y (fun c4=>?_) (fun c4=>?_)
     ·have c4:=(by simpa using c4:op=17)
      refine .seq<|.rs fun k18=>.fp t34 t2 Y<|.ld t2 Y (.ptr _ _ _ _ _ Y) Y<|.fp t34 t2 Y<|.ld t2 Y (.ptr _ _ _ _ _ Y) Y<|.bi Y<|.as Y<|.z ?_
      refine .ret ?_
      exact fin0 (.inr Y) (.one (svB (show (decide (a.lo > b.hi))=(allB op a b) by (rw [all_is ho]; first | (rw [if_pos c0]; done) | (rw [if_neg c0,if_pos c1]; done) | (rw [if_neg c0,if_neg c1,if_pos c2]; rw [Bool.eq_iff_iff]; simp; omega) | (rw [if_neg c0,if_neg c1,if_neg c2,if_pos c3]; done) | (rw [if_neg c0,if_neg c1,if_neg c2,if_neg c3,if_pos c4]; done) | (rw [if_neg c0,if_neg c1,if_neg c2,if_neg c3,if_neg c4]; done)))) .nil) (.dd .nil) Y
     ·have c4:=(by simpa using c4:¬ (op=17))
      refine .skip<|.seq<|.rs fun k20=>.fp t34 t2 Y<|.ld t2 Y (.ptr _ _ _ _ _ Y) Y<|.fp t34 t2 Y<|.ld t2 Y (.ptr _ _ _ _ _ Y) Y<|.bi Y<|.as Y ?_
      refine .z<|.ret ?_
      exact fin0 (.inr Y) (.one (svB (show (decide (a.lo≥b.hi))=(allB op a b) by (rw [all_is ho]; first | (rw [if_pos c0]; done) | (rw [if_neg c0,if_pos c1]; done) | (rw [if_neg c0,if_neg c1,if_pos c2]; rw [Bool.eq_iff_iff]; simp; omega) | (rw [if_neg c0,if_neg c1,if_neg c2,if_pos c3]; done) | (rw [if_neg c0,if_neg c1,if_neg c2,if_neg c3,if_pos c4]; done) | (rw [if_neg c0,if_neg c1,if_neg c2,if_neg c3,if_neg c4]; done)))) .nil) (.dd .nil) Y
theorem c_sIvCompare (op:Int) (a:Iv) (b:Iv):Trip Tryz.prog 101 [(false,1),(true,2),(true,2)] ([.v (.int .i64 (op))]++Iv.c a++Iv.c b) [(true,2)] [.v (.int .i64 ((cmV op a b).lo)),.v (.int .i64 ((cmV op a b).hi))] []:=by
 refine Trip.of Tryz.func101 (by decide) (c:=_) Y Y (Nat.le_of_ble_eq_true Y) Y (AftOk.nil _)<|.seq<|.rs fun k1=>.g (fun _ τ=>⟨_,.box (.no Y) Y Y Y Y Y τ⟩)<|.g (fun _ τ=>⟨_,.box (.no Y) Y Y Y Y Y τ⟩)<|.g (fun _ τ=>⟨_,.alloc (.no Y) Y z34 Y Y Y τ⟩)<|.z<|.seq<|.seq ?_
 refine .reg (X:=Unit) (fun ζ=>.of [(0,.one (.d (.v (.int .i64 (op))))),(4,.one (.ptr [4] (k1) 0)),(5,.one (.ptr [5] (k1+1) 0)),(6,.one (.ptr [6] (k1+1+1) 0)),(19,.one (.d (.v (.bool (((!(inR op 13 18)||!(Iv.ok a))||!(Iv.ok b)))))))] [([4],(k1,k1,.box [.d (.v (.int .i64 (a.lo))),.d (.v (.int .i64 (a.hi)))])),([5],(k1+1,k1+1,.box [.d (.v (.int .i64 (b.lo))),.d (.v (.int .i64 (b.hi)))])),([6],(k1+1+1,k1+1+1,.box [.d (.v (.int .i64 (0))),.d (.v (.int .i64 (0)))]))]) [⟨[0],some 7,[],[]⟩,⟨[7],some 8,[],[]⟩,⟨[8],some 9,[],[]⟩,⟨[9],some 10,[],[]⟩,⟨[10,4],some 11,[[4]],[]⟩,⟨[10,11],some 12,[],[]⟩,⟨[10,12],some 13,[],[]⟩,⟨[10,13],some 14,[],[]⟩,⟨[14],some 15,[],[]⟩,⟨[15,5],some 16,[[5]],[]⟩,⟨[15,16],some 17,[],[]⟩,⟨[15,17],some 18,[],[]⟩,⟨[15,18],some 19,[],[]⟩] (fun k2=>?_) ?_
 ·skip
  refine .move (.no Y) Y Y Y Y<|.call (.no Y) Y [] [] (c_l7Compares op) Y Y Y Y Y (.dd .nil) Y Y (fun h=>absurd Y h) (.own [8,0] .nil) (.nil) Y Y Y (by simp) Y Y Y<|.un (.no Y) Y Y Y Y Y<|.moveB (.no Y) Y Y Y Y fun b3 g1_3=>?_
  cases b3
  ·skip
   refine .load (.on Y Y Y Y Y) Y t34 Y Y (.ptr _ _ _ _ _ Y) Y Y Y Y<|.call (.on Y Y Y Y Y) Y [] [] (c_sIvOk a) Y Y Y Y Y (.dd (.dd .nil)) Y Y (fun h=>absurd Y h) (.own [12,0] .nil) (.nil) Y Y Y (by simp) Y Y Y<|.un (.on Y Y Y Y Y) Y Y Y Y Y<|.pick (.no Y) Y Y Y Y Y<|.moveB (.no Y) Y Y Y Y fun b4 g1_8=>?_
   cases b4
   ·skip
    refine .load (.on Y Y Y Y Y) Y t34 Y Y (.ptr _ _ _ _ _ Y) Y Y Y Y<|.call (.on Y Y Y Y Y) Y [] [] (c_sIvOk b) Y Y Y Y Y (.dd (.dd .nil)) Y Y (fun h=>absurd Y h) (.own [17,0] .nil) (.nil) Y Y Y (by simp) Y Y Y<|.un (.on Y Y Y Y Y) Y Y Y Y Y<|.pick (.no Y) Y Y Y Y Y ?_
    exact .fin () (.of (.cons Y (.cons Y (.cons Y (.cons Y (.cons (svB (show (!(Iv.ok b))=(((!(inR op 13 18)||!(Iv.ok a))||!(Iv.ok b))) by first | (simp only [g1_3,g1_8,Bool.true_or,Bool.false_or,Bool.true_and,Bool.false_and,Bool.not_true,Bool.not_false]; done) | (simp [g1_3,g1_8]; done) | (exfalso; simp_all; done))) .nil))))) (.r Y))
   ·skip
    refine .off Y Y Y Y Y Y Y<|.off Y Y Y Y Y Y Y<|.off Y Y Y Y Y Y Y<|.pick (.no Y) Y Y Y Y Y ?_
    exact .fin () (.of (.cons Y (.cons Y (.cons Y (.cons Y (.cons (svB (show (true)=(((!(inR op 13 18)||!(Iv.ok a))||!(Iv.ok b))) by first | (simp only [g1_3,g1_8,Bool.true_or,Bool.false_or,Bool.true_and,Bool.false_and,Bool.not_true,Bool.not_false]; done) | (simp [g1_3,g1_8]; done) | (exfalso; simp_all; done))) .nil))))) (.r Y))
  ·skip
   refine .off Y Y Y Y Y Y Y<|.off Y Y Y Y Y Y Y<|.off Y Y Y Y Y Y Y<|.pick (.no Y) Y Y Y Y Y<|.move (.no Y) Y Y Y Y<|.off Y Y Y Y Y Y Y<|.off Y Y Y Y Y Y Y<|.off Y Y Y Y Y Y Y<|.pick (.no Y) Y Y Y Y Y ?_
   exact .fin () (.of (.cons Y (.cons Y (.cons Y (.cons Y (.cons (svB (show (true)=(((!(inR op 13 18)||!(Iv.ok a))||!(Iv.ok b))) by first | (simp only [g1_3,Bool.true_or,Bool.false_or,Bool.true_and,Bool.false_and,Bool.not_true,Bool.not_false]; done) | (simp [g1_3]; done) | (exfalso; simp_all; done))) .nil))))) (.r Y))
 intro _
 refine .cond (t:=((!(inR op 13 18)||!(Iv.ok a))||!(Iv.ok b))) Y (fun c0=>?_) (fun c0=>?_)
 ·have c0:=(oT (oT (nT id) (nT id)) (nT id)) c0
  refine .seq<|.rs fun k5=>.g (fun _ τ=>⟨_,.build (.no Y) Y z34 Y p34 Y Y Y Y τ⟩)<|.g (fun _ τ=>⟨_,.store (.no Y) Y t34 Y Y Y Y Y Y Y Y Y τ⟩)<|.z<|.ret ?_
  have e6:(0)=((cmV op a b).lo):=by (first | (rw [cmV_no (cmB_no c0)]) | exact (all_cm hcm).1 | exact (all_cm hcm).2)
  have e7:(0)=((cmV op a b).hi):=by (first | (rw [cmV_no (cmB_no c0)]) | exact (all_cm hcm).1 | exact (all_cm hcm).2)
  have hc8:=eq2 (fun z1 z2=>some (k1+1+1,k5+1,O.box [.d (.v (.int .i64 (z1))),.d (.v (.int .i64 (z2)))])) e6 e7
  exact fin0 (.inr Y) (.cell (cells:=[.d (.v (.int .i64 ((cmV op a b).lo))),.d (.v (.int .i64 ((cmV op a b).hi)))]) Y hc8 t34 Y Y .nil) (.dd (.dd .nil)) Y
 ·have c0:=(oF (oF (nF id) (nF id)) (nF id)) c0
  have hcm:=cmB_yes c0
  have ⟨hg1,hg2,hg3⟩:=cm_get hcm
  refine .skip<|.seq ?_
  refine .regD (X:=Nat) (by kernel_rfl) (fun ζ=>.of [(6,.one (.ptr [6] (k1+1+1) 0))] [([6],(k1+1+1,ζ,.box [.d (.v (.int .i64 (truthN (allB op a b)))),.d (.v (.int .i64 (1 - (truthN (allB (oppN op) a b)))))]))]) [⟨[0],some 21,[],[]⟩,⟨[4],some 22,[[4]],[]⟩,⟨[5],some 23,[[5]],[]⟩,⟨[21,22,23],some 24,[],[]⟩,⟨[24],some 25,[],[]⟩,⟨[0],some 26,[],[]⟩,⟨[26],some 27,[],[]⟩,⟨[4],some 28,[[4]],[]⟩,⟨[5],some 29,[[5]],[]⟩,⟨[27,28,29],some 30,[],[]⟩,⟨[30],some 31,[],[]⟩,⟨[31],some 32,[],[]⟩,⟨[25,32],some 33,[],[]⟩,⟨[6,33],none,[[6]],[[6]]⟩] (by kernel_rfl) (fun k9=>?_) ?_
  ·skip
   refine .move (.no Y) Y Y Y Y<|.load (.no Y) Y t34 Y Y (.ptr _ _ _ _ _ Y) Y Y Y Y<|.load (.no Y) Y t34 Y Y (.ptr _ _ _ _ _ Y) Y Y Y Y<|.call (.no Y) Y [] [] (c_l7All op a b (by first | omega | exact opp_in (by omega))) Y Y Y Y Y (.dd (.dd (.dd (.dd (.dd .nil))))) Y Y (fun h=>absurd Y h) (.own [24,0] .nil) (.nil) Y Y Y (by simp) Y Y Y<|.call (.no Y) Y [] [] (c_l5One (allB op a b)) Y Y Y Y Y (.dd .nil) Y Y (fun h=>absurd Y h) (.own [25,0] .nil) (.nil) Y Y Y (by simp) Y Y Y<|.move (.no Y) Y Y Y Y<|.call (.no Y) Y [] [] (c_l7Not op (by first | omega | exact opp_in (by omega))) Y Y Y Y Y (.dd .nil) Y Y (fun h=>absurd Y h) (.own [27,0] .nil) (.nil) Y Y Y (by simp) Y Y Y ?_
   refine .load (.no Y) Y t34 Y Y (.ptr _ _ _ _ _ Y) Y Y Y Y<|.load (.no Y) Y t34 Y Y (.ptr _ _ _ _ _ Y) Y Y Y Y<|.call (.no Y) Y [] [] (c_l7All (oppN op) a b (by first | omega | exact opp_in (by omega))) Y Y Y Y Y (.dd (.dd (.dd (.dd (.dd .nil))))) Y Y (fun h=>absurd Y h) (.own [30,0] .nil) (.nil) Y Y Y (by simp) Y Y Y<|.call (.no Y) Y [] [] (c_l5One (allB (oppN op) a b)) Y Y Y Y Y (.dd .nil) Y Y (fun h=>absurd Y h) (.own [31,0] .nil) (.nil) Y Y Y (by simp) Y Y Y<|.binN (.no Y) Y (show IntKind.wrap .i64 (1 - (truthN (allB (oppN op) a b)))=1 - (truthN (allB (oppN op) a b)) by (have h9:=truthN_01 (allB (oppN op) a b); exact wrap_le (by omega) (by omega))) Y Y Y Y Y<|.build (.no Y) Y z34 Y p34 Y Y Y Y ?_
   refine .store (.no Y) Y t34 Y Y Y Y Y Y Y Y Y ?_
   exact .fin (k9+1+1+1+1+1+1+1+1+1+1+1+1+1) (.of (.r Y) (.r Y))
  intro g10
  refine .ret ?_
  have e11:(truthN (allB op a b))=((cmV op a b).lo):=by (first | (rw [cmV_no (cmB_no c0)]) | exact (all_cm hcm).1 | exact (all_cm hcm).2)
  have e12:(1 - (truthN (allB (oppN op) a b)))=((cmV op a b).hi):=by (first | (rw [cmV_no (cmB_no c0)]) | exact (all_cm hcm).1 | exact (all_cm hcm).2)
  have hc13:=eq2 (fun z1 z2=>some (k1+1+1,g10,O.box [.d (.v (.int .i64 (z1))),.d (.v (.int .i64 (z2)))])) e11 e12
  exact fin0 (.inr Y) (.cell (cells:=[.d (.v (.int .i64 ((cmV op a b).lo))),.d (.v (.int .i64 ((cmV op a b).hi)))]) Y hc13 t34 Y Y .nil) (.dd (.dd .nil)) Y
end Go.Proofs

namespace Go.Proofs
open Go Go.Proofs Go.Ev

theorem c_NumAddX (a:Int) (b:Int) (ha:Fit a) (hb:Fit b):Trip Tryz.prog 130 [(false,1),(false,1)] ([.v (.int .i64 (a))]++[.v (.int .i64 (b))]) [(false,1),(false,1)] [.v (.int .i64 (fitN (cnX 43 a b))),.v (.int .i64 (fitO (cnX 43 a b)))] []:=by
 have h:=c_NumAdd a b
 rw [(cn_43 ha hb Y).1,(cn_43 ha hb Y).2] at h
 exact h
theorem c_NumSubX (a:Int) (b:Int) (ha:Fit a) (hb:Fit b):Trip Tryz.prog 129 [(false,1),(false,1)] ([.v (.int .i64 (a))]++[.v (.int .i64 (b))]) [(false,1),(false,1)] [.v (.int .i64 (fitN (cnX 45 a b))),.v (.int .i64 (fitO (cnX 45 a b)))] []:=by
 have h:=c_NumSub a b ha hb
 rw [(cn_45 (o:=45) Y).1,(cn_45 (o:=45) Y).2] at h
 exact h
theorem c_NumMulX (a:Int) (b:Int) (ha:Fit a) (hb:Fit b):Trip Tryz.prog 131 [(false,1),(false,1)] ([.v (.int .i64 (a))]++[.v (.int .i64 (b))]) [(false,1),(false,1)] [.v (.int .i64 (fitN (cnX 42 a b))),.v (.int .i64 (fitO (cnX 42 a b)))] []:=by
 have h:=c_NumMul a b ha hb
 rw [(cn_42 (o:=42) Y).1,(cn_42 (o:=42) Y).2] at h
 exact h
theorem c_NumQuoX (a:Int) (b:Int) (ha:Fit a) (hb:Fit b):Trip Tryz.prog 133 [(false,1),(false,1)] ([.v (.int .i64 (a))]++[.v (.int .i64 (b))]) [(false,1),(false,1)] [.v (.int .i64 (fitN (cnX 47 a b))),.v (.int .i64 (fitO (cnX 47 a b)))] []:=by
 have h:=c_NumQuo a b ha hb
 rw [(cn_47 (o:=47) (by decide) (by decide) (by decide)).1,(cn_47 (o:=47) (by decide) (by decide) (by decide)).2] at h
 exact h
end Go.Proofs

namespace Go.Proofs
open Go Go.Proofs Go.Ev

theorem c_MinI (l:List Int) (hl:1≤l.length):Trip Tryz.prog 175 [(false,1)] ([.sl false 2 1 (List.map i64c (l))]) [(false,1)] [.v (.int .i64 (mnV l))] []:=by
 refine Trip.of Tryz.func175 (by decide) (c:=_) Y Y (Nat.le_of_ble_eq_true Y) Y (AftOk.nil _)<|.sl (t:=0) Y fun hs1l=>.seq<|.rs fun k2=>.as Y<|.z<|.seq<|.seq<|.rs fun k3=>?_
 refine .mv Y<|.g (fun _ τ=>⟨_,.len (.no Y) Y (z:=(l.length:Int)) t62 Y Y Y (.d _ _) (map_len _ _) Y τ⟩)<|.bi Y<|.z ?_
 refine .cond (t:=decide ((l.length:Int) < 1)) Y (fun c0=>?_) (fun c0=>?_)
 ·have c0:=of_decide_eq_true c0
  exfalso; omega
 ·have c0:=of_decide_eq_false c0
  refine .skip<|.seq<|.rs fun k4=>.mv Y<|.g (fun _ τ=>⟨_,.indexAddr (.no Y) Y (0) t62 Y t2 Y Y Y (.d _ _) Y Y Y (map_get (by omega)) Y Y τ⟩)<|.ld t2 Y (.d _) Y<|.as Y<|.z<|.seq ?_
  refine .seq<|.rs fun k5=>.as Y<|.z<|.block ?_
  refine .loop (X:=Nat) (fun ζ=>.of [(0,.one (.d (.sl false 2 1 (List.map i64c (l))))),(3,.one (.d (.v (.int .i64 (mnT l ζ))))),(4,.one (.d (.v (.int .i64 (((ζ+1:Nat):Int))))))] []) (fun ζ=>ζ+1≤l.length) (fun ζ=>l.length - ζ) ?_ ?_
  ·skip
   exact .here 0 (.of (.cons Y (.cons (svI (show (l.getD 0 default)=(mnT l 0) by first | rfl | omega | exact wrap_le (by omega) (by omega) | (rw [wrap_le (by omega) (by omega)]; omega))) (.cons (svI (show (1)=(((0+1:Nat):Int)) by first | rfl | omega | exact wrap_le (by omega) (by omega) | (rw [wrap_le (by omega) (by omega)]; omega))) .nil))) .nil) (show 0+1≤l.length by omega)
  ·rintro j hI
   have hI:j+1≤l.length:=hI
   refine .seq<|.seq<|.rs fun k6=>.mv Y<|.mv Y<|.g (fun _ τ=>⟨_,.len (.no Y) Y (z:=(l.length:Int)) t62 Y Y Y (.d _ _) (map_len _ _) Y τ⟩)<|.bi Y<|.z ?_
   refine .cond (t:=decide (((j+1:Nat):Int) < (l.length:Int))) Y (fun c1=>?_) (fun c1=>?_)
   ·have c1:=of_decide_eq_true c1
    refine .skip<|.seq<|.block<|.rs fun k7=>.mv Y<|.mv Y<|.mv Y<|.g (fun _ τ=>⟨_,.indexAddr (.no Y) Y ((j+1:Nat)) t62 Y t2 Y Y Y (.d _ _) Y Y Y (map_get (by omega)) Y Y τ⟩)<|.ld t2 Y (.d _) Y ?_
    refine .g (fun _ τ=>⟨_,.min (.no Y) Y Y Y Y (min_of _ _) Y τ⟩)<|.as Y<|.z<|.rs fun k8=>.mv Y<|.bi Y<|.as Y<|.z ?_
    exact .here (j+1) (.of (.cons Y (.cons (svI (show (min (mnT l j) (l.getD (j+1:Nat) default))=(mnT l (j+1)) by first | rfl | omega | exact wrap_le (by omega) (by omega) | (rw [wrap_le (by omega) (by omega)]; omega))) (.cons (svI (show (IntKind.wrap .i64 (((j+1:Nat):Int)+1))=((((j+1)+1:Nat):Int)) by first | rfl | omega | exact wrap_le (by omega) (by omega) | (rw [wrap_le (by omega) (by omega)]; omega))) .nil))) .nil) ⟨(show (j+1)+1≤l.length by omega),(show l.length - (j+1) < l.length - j by omega)⟩
   ·have c1:=of_decide_eq_false c1
    refine .exit<|.seq<|.rs fun k9=>.mv Y<|.as Y<|.z<|.ret ?_
    exact fin0 (.inr Y) (.one (svI (show (mnT l j)=(mnV l) by exact mnV_end hI c1)) .nil) (.dd .nil) Y
theorem c_MaxI (l:List Int) (hl:1≤l.length):Trip Tryz.prog 176 [(false,1)] ([.sl false 2 1 (List.map i64c (l))]) [(false,1)] [.v (.int .i64 (mxV l))] []:=by
 refine Trip.of Tryz.func176 (by decide) (c:=_) Y Y (Nat.le_of_ble_eq_true Y) Y (AftOk.nil _)<|.sl (t:=0) Y fun hs1l=>.seq<|.rs fun k2=>.as Y<|.z<|.seq<|.seq<|.rs fun k3=>?_
 refine .mv Y<|.g (fun _ τ=>⟨_,.len (.no Y) Y (z:=(l.length:Int)) t62 Y Y Y (.d _ _) (map_len _ _) Y τ⟩)<|.bi Y<|.z ?_
 refine .cond (t:=decide ((l.length:Int) < 1)) Y (fun c0=>?_) (fun c0=>?_)
 ·have c0:=of_decide_eq_true c0
  exfalso; omega
 ·have c0:=of_decide_eq_false c0
  refine .skip<|.seq<|.rs fun k4=>.mv Y<|.g (fun _ τ=>⟨_,.indexAddr (.no Y) Y (0) t62 Y t2 Y Y Y (.d _ _) Y Y Y (map_get (by omega)) Y Y τ⟩)<|.ld t2 Y (.d _) Y<|.as Y<|.z<|.seq ?_
  refine .seq<|.rs fun k5=>.as Y<|.z<|.block ?_
  refine .loop (X:=Nat) (fun ζ=>.of [(0,.one (.d (.sl false 2 1 (List.map i64c (l))))),(3,.one (.d (.v (.int .i64 (mxT l ζ))))),(4,.one (.d (.v (.int .i64 (((ζ+1:Nat):Int))))))] []) (fun ζ=>ζ+1≤l.length) (fun ζ=>l.length - ζ) ?_ ?_
  ·skip
   exact .here 0 (.of (.cons Y (.cons (svI (show (l.getD 0 default)=(mxT l 0) by first | rfl | omega | exact wrap_le (by omega) (by omega) | (rw [wrap_le (by omega) (by omega)]; omega))) (.cons (svI (show (1)=(((0+1:Nat):Int)) by first | rfl | omega | exact wrap_le (by omega) (by omega) | (rw [wrap_le (by omega) (by omega)]; omega))) .nil))) .nil) (show 0+1≤l.length by omega)
  ·rintro j hI
   have hI:j+1≤l.length:=hI
   refine .seq<|.seq<|.rs fun k6=>.mv Y<|.mv Y<|.g (fun _ τ=>⟨_,.len (.no Y) Y (z:=(l.length:Int)) t62 Y Y Y (.d _ _) (map_len _ _) Y τ⟩)<|.bi Y<|.z ?_
   refine .cond (t:=decide (((j+1:Nat):Int) < (l.length:Int))) Y (fun c1=>?_) (fun c1=>?_)
   ·have c1:=of_decide_eq_true c1
    refine .skip<|.seq<|.block<|.rs fun k7=>.mv Y<|.mv Y<|.mv Y<|.g (fun _ τ=>⟨_,.indexAddr (.no Y) Y ((j+1:Nat)) t62 Y t2 Y Y Y (.d _ _) Y Y Y (map_get (by omega)) Y Y τ⟩)<|.ld t2 Y (.d _) Y ?_
    refine .g (fun _ τ=>⟨_,.max (.no Y) Y Y Y Y (max_of _ _) Y τ⟩)<|.as Y<|.z<|.rs fun k8=>.mv Y<|.bi Y<|.as Y<|.z ?_
    exact .here (j+1) (.of (.cons Y (.cons (svI (show (max (mxT l j) (l.getD (j+1:Nat) default))=(mxT l (j+1)) by first | rfl | omega | exact wrap_le (by omega) (by omega) | (rw [wrap_le (by omega) (by omega)]; omega))) (.cons (svI (show (IntKind.wrap .i64 (((j+1:Nat):Int)+1))=((((j+1)+1:Nat):Int)) by first | rfl | omega | exact wrap_le (by omega) (by omega) | (rw [wrap_le (by omega) (by omega)]; omega))) .nil))) .nil) ⟨(show (j+1)+1≤l.length by omega),(show l.length - (j+1) < l.length - j by omega)⟩
   ·have c1:=of_decide_eq_false c1
    refine .exit<|.seq<|.rs fun k9=>.mv Y<|.as Y<|.z<|.ret ?_
    exact fin0 (.inr Y) (.one (svI (show (mxT l j)=(mxV l) by exact mxV_end hI c1)) .nil) (.dd .nil) Y
theorem c_CloneN (l:List Int) (hb:l.length≤2097152):Trip Tryz.prog 174 [(false,1)] ([.sl false 2 1 (List.map i64c (l))]) [(false,1)] [.sl true 2 1 (List.map i64c (l))] []:=by
 refine Trip.of Tryz.func174 (by decide) (c:=_) Y Y (Nat.le_of_ble_eq_true Y) Y (AftOk.nil _)<|.sl (t:=0) Y fun hs1l=>.seq<|.rs fun k2=>.as Y<|.z<|.seq<|.seq ?_
 refine .nilEq t62 Y Y Y Y Y Y Y Y Y Y Y (fun b3 hb3=>?_)
 refine .cond (t:=b3) Y (fun c0=>?_) (fun c0=>?_)
 ·have c0:=c0
  refine .seq<|.rs fun k4=>.as Y<|.z<|.ret ?_
  exact fin0 (.inr Y) (.one Y .nil) (.cons (Gives.nil' (by first | rfl | simp_all)) .nil) Y
 ·have c0:=c0
  refine .skip<|.seq<|.rs fun k5=>.g (fun _ τ=>⟨_,.buildSlice (.no Y) Y (els:=[]) t62 Y z2 Y Y Y Y Y Y Y Y (by simp [i2]) .nil Y Y Y τ⟩)<|.mv Y<|.g (fun _ τ=>⟨_,.append (.no Y) Y (l3:=List.map i64c (l)) t62 Y z2 Y Y Y Y Y Y Y Y (.ref _ _ _ _ Y) (.ro _ _) Y (by (simp [i2]; omega)) (List.nil_append _) Y Y τ⟩)<|.as Y<|.z<|.ret ?_
  exact fin1 (.inr Y) [] [([5],(k5+1+1,k5+1+1,.row 2 1 (List.map i64c (l))))] (.one Y .nil) (.cons (.ref (.head _)) .nil) Y Y (.r Y)
end Go.Proofs

namespace Go.Proofs
open Go Go.Proofs Go.Ev

def i175:TI:=⟨.st [(0,62),(1,4),(2,4)],3,32,[.slice none 0 0,.bool false,.bool false]⟩
theorem t175:TyOk Tryz.prog 175 i175:=⟨⟨_,Tryz.underlying175,rfl⟩,by kernel_rfl⟩
theorem z175:ZOk Tryz.prog 175 i175:=⟨t175,rfl⟩
theorem p175:Places Tryz.prog [(0,62),(1,4),(2,4)] [(0,1),(1,1),(2,1)]:=by unfold Places; kernel_rfl
theorem c_cadd (c:Corn) (n:Int) (w:Int) (hl:c.list.length≤1048576):Trip Tryz.prog 173 [(false,1),(false,1),(false,1)] ([.pt true [.sl true 2 1 (List.map i64c (c.list)),.v (.bool (c.isBelow)),.v (.bool (c.isAbove))]]++[.v (.int .i64 (n))]++[.v (.int .i64 (w))]) [] [] [(0,.pt true [.sl true 2 1 (List.map i64c ((Corn.add c n w).list)),.v (.bool ((Corn.add c n w).isBelow)),.v (.bool ((Corn.add c n w).isAbove))])]:=by
 refine Trip.of Tryz.func173 (by decide) (c:=_) Y Y (Nat.le_of_ble_eq_true Y) Y (AftOk.pt Y (AftOk.nil _))<|.block<|.seq<|.rs fun k1=>.mv Y<|.bi Y<|.as Y<|.z ?_
 refine .cond (t:=decide (w < 0)) Y (fun c0=>?_) (fun c0=>?_)
 ·have c0:=of_decide_eq_true c0
  refine .rs fun k2=>.mv Y<|.g (fun _ τ=>⟨_,.nilCheck (.no Y) Y Y Y (ptr_some _ _ _) Y τ⟩)<|.fp t175 t4 Y<|.g (fun _ τ=>⟨_,.store (.no Y) Y t4 Y Y Y Y Y Y Y Y Y τ⟩)<|.z ?_
  have e3:(true)=((Corn.add c n w).isBelow):=by (first | exact (cad_0 c0).1 | exact (cad_0 c0).2.1 | exact (cad_0 c0).2.2 | exact (cad_1 c0 c1).1 | exact (cad_1 c0 c1).2.1 | exact (cad_1 c0 c1).2.2 | exact (cad_2 c0 c1).1 | exact (cad_2 c0 c1).2.1 | exact (cad_2 c0 c1).2.2)
  have e4:(c.isAbove)=((Corn.add c n w).isAbove):=by (first | exact (cad_0 c0).1 | exact (cad_0 c0).2.1 | exact (cad_0 c0).2.2 | exact (cad_1 c0 c1).1 | exact (cad_1 c0 c1).2.1 | exact (cad_1 c0 c1).2.2 | exact (cad_2 c0 c1).1 | exact (cad_2 c0 c1).2.1 | exact (cad_2 c0 c1).2.2)
  have e5:(c.list)=((Corn.add c n w).list):=by (first | exact (cad_0 c0).1 | exact (cad_0 c0).2.1 | exact (cad_0 c0).2.2 | exact (cad_1 c0 c1).1 | exact (cad_1 c0 c1).2.1 | exact (cad_1 c0 c1).2.2 | exact (cad_2 c0 c1).1 | exact (cad_2 c0 c1).2.1 | exact (cad_2 c0 c1).2.2)
  exact fin1 (.inl Y) [] [([0,0,0],(0,k2+1+1+1,.box [.ref [0,0,0,0] (0),.d (.v (.bool ((Corn.add c n w).isBelow))),.d (.v (.bool ((Corn.add c n w).isAbove)))])),([0,0,0,0],(0,0,.row 2 1 (List.map i64c ((Corn.add c n w).list))))] (.nil) (.cons (.ptr (.head _) (.cons (.ref (.tail _ (.head _))) (.dd (.dd .nil))) (by simp)) .nil) Y Y (.cons (eq2 (fun z1 z2=>some (0,k2+1+1+1,O.box [.ref [0,0,0,0] (0),.d (.v (.bool (z1))),.d (.v (.bool (z2)))])) e3 e4) (.cons (rowE (congrArg (List.map i64c) e5)) .nil))
 ·have c0:=of_decide_eq_false c0
  refine .seq<|.rs fun k6=>.mv Y<|.bi Y<|.as Y<|.z ?_
  refine .cond (t:=decide (w > 0)) Y (fun c1=>?_) (fun c1=>?_)
  ·have c1:=of_decide_eq_true c1
   refine .rs fun k7=>.mv Y<|.g (fun _ τ=>⟨_,.nilCheck (.no Y) Y Y Y (ptr_some _ _ _) Y τ⟩)<|.fp t175 t4 Y<|.g (fun _ τ=>⟨_,.store (.no Y) Y t4 Y Y Y Y Y Y Y Y Y τ⟩)<|.z ?_
   have e8:(c.isBelow)=((Corn.add c n w).isBelow):=by (first | exact (cad_0 c0).1 | exact (cad_0 c0).2.1 | exact (cad_0 c0).2.2 | exact (cad_1 c0 c1).1 | exact (cad_1 c0 c1).2.1 | exact (cad_1 c0 c1).2.2 | exact (cad_2 c0 c1).1 | exact (cad_2 c0 c1).2.1 | exact (cad_2 c0 c1).2.2)
   have e9:(true)=((Corn.add c n w).isAbove):=by (first | exact (cad_0 c0).1 | exact (cad_0 c0).2.1 | exact (cad_0 c0).2.2 | exact (cad_1 c0 c1).1 | exact (cad_1 c0 c1).2.1 | exact (cad_1 c0 c1).2.2 | exact (cad_2 c0 c1).1 | exact (cad_2 c0 c1).2.1 | exact (cad_2 c0 c1).2.2)
   have e10:(c.list)=((Corn.add c n w).list):=by (first | exact (cad_0 c0).1 | exact (cad_0 c0).2.1 | exact (cad_0 c0).2.2 | exact (cad_1 c0 c1).1 | exact (cad_1 c0 c1).2.1 | exact (cad_1 c0 c1).2.2 | exact (cad_2 c0 c1).1 | exact (cad_2 c0 c1).2.1 | exact (cad_2 c0 c1).2.2)
   exact fin1 (.inl Y) [] [([0,0,0],(0,k7+1+1+1,.box [.ref [0,0,0,0] (0),.d (.v (.bool ((Corn.add c n w).isBelow))),.d (.v (.bool ((Corn.add c n w).isAbove)))])),([0,0,0,0],(0,0,.row 2 1 (List.map i64c ((Corn.add c n w).list))))] (.nil) (.cons (.ptr (.head _) (.cons (.ref (.tail _ (.head _))) (.dd (.dd .nil))) (by simp)) .nil) Y Y (.cons (eq2 (fun z1 z2=>some (0,k7+1+1+1,O.box [.ref [0,0,0,0] (0),.d (.v (.bool (z1))),.d (.v (.bool (z2)))])) e8 e9) (.cons (rowE (congrArg (List.map i64c) e10)) .nil))
  ·have c1:=of_decide_eq_false c1
   refine .rs fun k11=>.mv Y<|.mv Y<|.g (fun _ τ=>⟨_,.nilCheck (.no Y) Y Y Y (ptr_some _ _ _) Y τ⟩)<|.fp t175 t62 Y<|.ld t62 Y (.ptr _ _ _ _ _ Y) Y<|.mv Y<|.g (fun _ τ=>⟨_,.buildSlice (.no Y) Y (els:=[[.v (.int .i64 (n))]]) t62 Y z2 Y Y Y Y Y Y Y Y (by simp [i2]) (.cons _ _ _ _ _ _ (.d _) .nil) Y Y Y τ⟩)<|.g (fun _ τ=>⟨_,.append (.no Y) Y (l3:=List.map i64c (c.list++[n])) t62 Y z2 Y Y Y Y Y Y Y Y (.ref _ _ _ _ Y) (.take _ _ _ _ _ Y) Y (by (simp [i2]; omega)) (map_snoc _ _ _) Y Y τ⟩) ?_
   refine .g (fun _ τ=>⟨_,.nilCheck (.no Y) Y Y Y (ptr_some _ _ _) Y τ⟩)<|.fp t175 t62 Y<|.g (fun _ τ=>⟨_,.store (.no Y) Y t62 Y Y Y Y Y Y Y Y Y τ⟩)<|.z ?_
   have e12:(c.isBelow)=((Corn.add c n w).isBelow):=by (first | exact (cad_0 c0).1 | exact (cad_0 c0).2.1 | exact (cad_0 c0).2.2 | exact (cad_1 c0 c1).1 | exact (cad_1 c0 c1).2.1 | exact (cad_1 c0 c1).2.2 | exact (cad_2 c0 c1).1 | exact (cad_2 c0 c1).2.1 | exact (cad_2 c0 c1).2.2)
   have e13:(c.isAbove)=((Corn.add c n w).isAbove):=by (first | exact (cad_0 c0).1 | exact (cad_0 c0).2.1 | exact (cad_0 c0).2.2 | exact (cad_1 c0 c1).1 | exact (cad_1 c0 c1).2.1 | exact (cad_1 c0 c1).2.2 | exact (cad_2 c0 c1).1 | exact (cad_2 c0 c1).2.1 | exact (cad_2 c0 c1).2.2)
   have e14:(c.list++[n])=((Corn.add c n w).list):=by (first | exact (cad_0 c0).1 | exact (cad_0 c0).2.1 | exact (cad_0 c0).2.2 | exact (cad_1 c0 c1).1 | exact (cad_1 c0 c1).2.1 | exact (cad_1 c0 c1).2.2 | exact (cad_2 c0 c1).1 | exact (cad_2 c0 c1).2.1 | exact (cad_2 c0 c1).2.2)
   exact fin1 (.inl Y) [] [([0,0,0],(0,k11+1+1+1+1+1+1+1+1+1+1,.box [.ref [0,0,0,0] (k11+1+1+1+1+1+1+1),.d (.v (.bool ((Corn.add c n w).isBelow))),.d (.v (.bool ((Corn.add c n w).isAbove)))])),([0,0,0,0],(k11+1+1+1+1+1+1+1,k11+1+1+1+1+1+1+1,.row 2 1 (List.map i64c ((Corn.add c n w).list))))] (.nil) (.cons (.ptr (.head _) (.cons (.ref (.tail _ (.head _))) (.dd (.dd .nil))) (by simp)) .nil) Y Y (.cons (eq2 (fun z1 z2=>some (0,k11+1+1+1+1+1+1+1+1+1+1,O.box [.ref [0,0,0,0] (k11+1+1+1+1+1+1+1),.d (.v (.bool (z1))),.d (.v (.bool (z2)))])) e12 e13) (.cons (rowE (congrArg (List.map i64c) e14)) .nil))
end Go.Proofs

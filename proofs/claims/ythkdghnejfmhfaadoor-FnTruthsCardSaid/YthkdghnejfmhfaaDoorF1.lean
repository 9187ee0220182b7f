/- Contracts of the program's functions at this seat, printed by a program of ours and checked by Lean: each under the conditions of its own statement. -/
import Derived.Test.YthkdghnejfmhfaaDoorE4
import Derived.Test.YthkdghnejfmhfaaDoorE5
import Derived.Test.YthkdghnejfmhfaaDoorProg
import Derived.Test.YthkdghnejfmhfaaDoorShelf
set_option linter.all false
set_option linter.unnecessarySimpa false
set_option linter.unusedSectionVars false
set_option linter.unusedSimpArgs false
set_option linter.unusedVariables false
namespace Go.Proofs
theorem Y.{u} {α : Sort u} {a : α} : a = a := rfl
open Go Go.Proofs Go.Ev
instance:Lay:=⟨[(0,(List.range 256).map fun c=>.v (.int .u8 (if Lib.isSp (UInt8.ofNat c) then 1 else 0)))]⟩

def strc (x:ByteArray):List D:=[.v (.string x)]
theorem strc_e (x:ByteArray):(strc x).map D.erase=strc x:=by simp [strc,D.erase_v]
theorem strc_o (x:ByteArray):∀ d∈strc x,Owned d:=by simp [strc,Owned.v]
def i9:TI:=⟨.str,1,16,[.string .empty]⟩
theorem t9:TyOk Tryd.prog 9 i9:=⟨Tryd.underlying9,by kernel_rfl⟩
theorem z9:ZOk Tryd.prog 9 i9:=⟨t9,rfl⟩
def i33:TI:=⟨.sl 9,1,24,[.slice none 0 0]⟩
theorem t33:TyOk Tryd.prog 33 i33:=⟨Tryd.underlying33,by kernel_rfl⟩
theorem z33:ZOk Tryd.prog 33 i33:=⟨t33,rfl⟩
theorem c_l1In (n:Int) (lo:Int) (hi:Int):Trip Tryd.prog 58 [(false,1),(false,1),(false,1)] ([.v (.int .i64 (n))]++[.v (.int .i64 (lo))]++[.v (.int .i64 (hi))]) [(false,1)] [.v (.bool (inR n lo hi))] []:=by
 refine Trip.of Tryd.func58 (by decide) (c:=_) Y Y (Nat.le_of_ble_eq_true Y) Y (AftOk.nil _)<|.seq<|.rs fun k1=>.as Y<|.z<|.seq ?_
 refine .reg (X:=Unit) (fun ζ=>.of [(6,.one (.d (.v (.bool ((decide (n≥lo)&&decide (n≤hi)))))))] []) [⟨[0],some 7,[],[]⟩,⟨[1],some 8,[],[]⟩,⟨[7,8],some 9,[],[]⟩,⟨[9],some 10,[],[]⟩,⟨[10,0],some 11,[],[]⟩,⟨[10,2],some 12,[],[]⟩,⟨[10,11,12],some 13,[],[]⟩,⟨[10,13],some 14,[],[]⟩,⟨[14],some 6,[],[]⟩] (fun k2=>?_) ?_
 ·skip
  refine .move (.no Y) Y Y Y Y<|.move (.no Y) Y Y Y Y<|.bin (.no Y) Y Y Y Y Y Y<|.moveB (.no Y) Y Y Y Y fun b3 g1_3=>?_
  cases b3
  ·skip
   refine .off Y Y Y Y Y Y Y<|.off Y Y Y Y Y Y Y<|.off Y Y Y Y Y Y Y<|.pick (.no Y) Y Y Y Y Y<|.assign (.no Y) Y Y Y Y ?_
   exact .fin () (.of (.cons (svB (show (false)=((decide (n≥lo)&&decide (n≤hi))) by first | (simp only [g1_3,Bool.true_or,Bool.false_or,Bool.true_and,Bool.false_and,Bool.not_true,Bool.not_false]; done) | (simp [g1_3]; done) | (exfalso; simp_all; done))) .nil) .nil)
  ·skip
   refine .move (.on Y Y Y Y Y) Y Y Y Y<|.move (.on Y Y Y Y Y) Y Y Y Y<|.bin (.on Y Y Y Y Y) Y Y Y Y Y Y<|.pick (.no Y) Y Y Y Y Y<|.assign (.no Y) Y Y Y Y ?_
   exact .fin () (.of (.cons (svB (show (decide (n≤hi))=((decide (n≥lo)&&decide (n≤hi))) by first | (simp only [g1_3,Bool.true_or,Bool.false_or,Bool.true_and,Bool.false_and,Bool.not_true,Bool.not_false]; done) | (simp [g1_3]; done) | (exfalso; simp_all; done))) .nil) .nil)
 intro _
 refine .ret ?_
 exact fin0 (.inr Y) (.one (svB (show ((decide (n≥lo)&&decide (n≤hi)))=(inR n lo hi) by (first | rfl | simp_all [inR]))) .nil) (.dd .nil) Y
theorem c_l3Key (s:ByteArray):Trip Tryd.prog 96 [(false,1)] ([.v (.string (s))]) [(false,1)] [.v (.bool (isKey s))] []:=by
 refine Trip.of Tryd.func96 (by decide) (c:=_) Y Y (Nat.le_of_ble_eq_true Y) Y (AftOk.nil _)<|.seq<|.rs fun k1=>.as Y<|.z<|.seq<|.rs fun k2=>?_
 refine .g (fun _ τ=>⟨_,.buildSlice (.no Y) Y (els:=[[.v (.string ((⟨#[118,97,114]⟩:ByteArray)))],[.v (.string ((⟨#[102,108,97,103]⟩:ByteArray)))],[.v (.string ((⟨#[97,114,114,97,121]⟩:ByteArray)))],[.v (.string ((⟨#[105,102]⟩:ByteArray)))],[.v (.string ((⟨#[102,111,114,107]⟩:ByteArray)))],[.v (.string ((⟨#[101,108,115,101]⟩:ByteArray)))],[.v (.string ((⟨#[101,110,100]⟩:ByteArray)))],[.v (.string ((⟨#[119,104,105,108,101]⟩:ByteArray)))],[.v (.string ((⟨#[117,110,114,111,108,108]⟩:ByteArray)))],[.v (.string ((⟨#[97,115,115,101,114,116]⟩:ByteArray)))],[.v (.string ((⟨#[97,115,115,117,109,101]⟩:ByteArray)))],[.v (.string ((⟨#[105,110,112,117,116]⟩:ByteArray)))],[.v (.string ((⟨#[115,112,108,105,116]⟩:ByteArray)))],[.v (.string ((⟨#[109,101,114,103,101]⟩:ByteArray)))],[.v (.string ((⟨#[116,114,117,101]⟩:ByteArray)))],[.v (.string ((⟨#[102,97,108,115,101]⟩:ByteArray)))]]) t33 Y z9 Y Y Y Y Y Y Y Y (by simp [i9]) (.cons _ _ _ _ _ _ (.d _) (.cons _ _ _ _ _ _ (.d _) (.cons _ _ _ _ _ _ (.d _) (.cons _ _ _ _ _ _ (.d _) (.cons _ _ _ _ _ _ (.d _) (.cons _ _ _ _ _ _ (.d _) (.cons _ _ _ _ _ _ (.d _) (.cons _ _ _ _ _ _ (.d _) (.cons _ _ _ _ _ _ (.d _) (.cons _ _ _ _ _ _ (.d _) (.cons _ _ _ _ _ _ (.d _) (.cons _ _ _ _ _ _ (.d _) (.cons _ _ _ _ _ _ (.d _) (.cons _ _ _ _ _ _ (.d _) (.cons _ _ _ _ _ _ (.d _) (.cons _ _ _ _ _ _ (.d _) .nil)))))))))))))))) Y Y Y τ⟩) ?_
 refine .as Y<|.z<|.seq<|.seq<|.rs fun k3=>.as Y<|.z<|.block ?_
 refine .loop (X:=Nat × Nat × Nat) (fun ζ=>.of [(0,.one (.d (.v (.string (s))))),(3,.one (.ref [5] (ζ.2.1))),(4,.one (.d (.v (.int .i64 ((ζ.1:Int))))))] [([5],(ζ.2.1,ζ.2.2,.row 9 1 (List.map strc (keys))))]) (fun ζ=>ζ.1≤keys.length∧allTo ζ.1 (fun i=>!strEq (keys.getD i default) s)=true) (fun ζ=>keys.length - ζ.1) ?_ ?_
 ·skip
  exact .here (0,k2,k2) (.of (.cons Y (.cons Y (.cons (svI (show (0)=((0:Int)) by first | rfl | omega | exact wrap_le (by omega) (by omega) | (rw [wrap_le (by omega) (by omega)]; omega))) .nil))) (.cons (rowE (show [[.v (.string ((⟨#[118,97,114]⟩:ByteArray)))],[.v (.string ((⟨#[102,108,97,103]⟩:ByteArray)))],[.v (.string ((⟨#[97,114,114,97,121]⟩:ByteArray)))],[.v (.string ((⟨#[105,102]⟩:ByteArray)))],[.v (.string ((⟨#[102,111,114,107]⟩:ByteArray)))],[.v (.string ((⟨#[101,108,115,101]⟩:ByteArray)))],[.v (.string ((⟨#[101,110,100]⟩:ByteArray)))],[.v (.string ((⟨#[119,104,105,108,101]⟩:ByteArray)))],[.v (.string ((⟨#[117,110,114,111,108,108]⟩:ByteArray)))],[.v (.string ((⟨#[97,115,115,101,114,116]⟩:ByteArray)))],[.v (.string ((⟨#[97,115,115,117,109,101]⟩:ByteArray)))],[.v (.string ((⟨#[105,110,112,117,116]⟩:ByteArray)))],[.v (.string ((⟨#[115,112,108,105,116]⟩:ByteArray)))],[.v (.string ((⟨#[109,101,114,103,101]⟩:ByteArray)))],[.v (.string ((⟨#[116,114,117,101]⟩:ByteArray)))],[.v (.string ((⟨#[102,97,108,115,101]⟩:ByteArray)))]]=List.map strc (keys) by rfl)) .nil)) (show 0≤keys.length∧allTo 0 (fun i=>!strEq (keys.getD i default) s)=true by exact ⟨by omega,rfl⟩)
 ·rintro ⟨j,q4,q5⟩ hI
  have hI:j≤keys.length∧allTo j (fun i=>!strEq (keys.getD i default) s)=true:=hI
  have hk9:keys.length=16:=rfl
  dsimp only
  refine .seq<|.seq<|.rs fun k6=>.mv Y<|.mv Y<|.g (fun _ τ=>⟨_,.len (.no Y) Y (z:=(keys.length:Int)) t33 Y Y Y (.ref _ _ _ _ _ Y) (map_len _ _) Y τ⟩)<|.bi Y<|.z ?_
  refine .cond (t:=decide ((j:Int) < (keys.length:Int))) Y (fun c0=>?_) (fun c0=>?_)
  ·have c0:=of_decide_eq_true c0
   refine .skip<|.seq<|.block<|.seq<|.rs fun k7=>.mv Y<|.mv Y<|.g (fun _ τ=>⟨_,.indexAddr (.no Y) Y (j) t33 Y t9 Y Y Y (.ref _ _ _ _ _ Y) Y Y Y (map_get (by omega)) Y Y τ⟩)<|.ld t9 Y (.eptr _ _ _ _ _ _ _ _ _ Y (map_get (by omega))) Y ?_
   refine .mv Y<|.bi Y<|.z ?_
   refine .cond (t:=(keys.getD j default).toList == s.toList) Y (fun c1=>?_) (fun c1=>?_)
   ·have c1:=c1
    refine .seq<|.rs fun k8=>.as Y<|.z<|.ret ?_
    exact fin0 (.inr Y) (.one (svB (show (true)=(isKey s) by exact (any_found (p:=fun x=>strEq x s) (j:=j) (by omega) c1).symm)) .nil) (.dd .nil) Y
   ·have c1:=c1
    refine .skip<|.rs fun k10=>.mv Y<|.bi Y<|.as Y<|.z ?_
    exact .here ((j+1),q4,q5) (.of (.cons Y (.cons Y (.cons (svI (show (IntKind.wrap .i64 ((j:Int)+1))=(((j+1):Int)) by first | rfl | omega | exact wrap_le (by omega) (by omega) | (rw [wrap_le (by omega) (by omega)]; omega))) .nil))) (.r Y)) ⟨(show (j+1)≤keys.length∧allTo (j+1) (fun i=>!strEq (keys.getD i default) s)=true by exact ⟨by omega,allTo_step hI.2 (by rw [show strEq (keys.getD j default) s=false from c1]; rfl)⟩),(show keys.length - (j+1) < keys.length - j by omega)⟩
  ·have c0:=of_decide_eq_false c0
   refine .exit<|.seq<|.rs fun k11=>.as Y<|.z<|.ret ?_
   exact fin0 (.inr Y) (.one (svB (show (false)=(isKey s) by exact (any_none (p:=fun x=>strEq x s) (j:=j) (by omega) hI.2).symm)) .nil) (.dd .nil) Y
theorem c_l3Name (s:ByteArray) (hs:s.size≤9223372036854775807):Trip Tryd.prog 72 [(false,1)] ([.v (.string (s))]) [(false,1)] [.v (.bool (nmOk s))] []:=by
 refine Trip.of Tryd.func72 (by decide) (c:=_) Y Y (Nat.le_of_ble_eq_true Y) Y (AftOk.nil _)<|.seq<|.rs fun k1=>.as Y<|.z<|.seq<|.seq<|.rs fun k2=>.as Y ?_
 refine .z<|.block ?_
 refine .loop (X:=Nat) (fun ζ=>.of [(0,.one (.d (.v (.string (s))))),(3,.one (.d (.v (.int .i64 ((ζ:Int))))))] []) (fun ζ=>ζ≤s.size∧allTo ζ (fun i=>decide (97≤byteAt s i∧byteAt s i≤122))=true) (fun ζ=>s.size - ζ) ?_ ?_
 ·skip
  exact .here 0 (.of (.cons Y (.cons (svI (show (0)=((0:Int)) by first | rfl | omega | exact wrap_le (by omega) (by omega) | (rw [wrap_le (by omega) (by omega)]; omega))) .nil)) .nil) (show 0≤s.size∧allTo 0 (fun i=>decide (97≤byteAt s i∧byteAt s i≤122))=true by exact ⟨by omega,rfl⟩)
 ·rintro j hI
  have hI:j≤s.size∧allTo j (fun i=>decide (97≤byteAt s i∧byteAt s i≤122))=true:=hI
  refine .seq<|.seq<|.rs fun k3=>.mv Y<|.mv Y<|.g (fun _ τ=>⟨_,.lenStr (.no Y) Y t9 Y Y Y Y Y τ⟩)<|.bi Y<|.z ?_
  refine .cond (t:=decide ((j:Int) < (s.size:Int))) Y (fun c0=>?_) (fun c0=>?_)
  ·have c0:=of_decide_eq_true c0
   refine .skip<|.seq<|.block<|.seq ?_
   refine .reg (X:=Unit) (fun ζ=>.of [(0,.one (.d (.v (.string (s))))),(3,.one (.d (.v (.int .i64 ((j:Int)))))),(19,.one (.d (.v (.bool ((decide ((byteAt s j) < 97)||decide ((byteAt s j) > 122)))))))] []) [⟨[0],some 10,[],[]⟩,⟨[3],some 11,[],[]⟩,⟨[10,11],some 12,[],[]⟩,⟨[12],some 13,[],[]⟩,⟨[13],some 14,[],[]⟩,⟨[14,0],some 15,[],[]⟩,⟨[14,3],some 16,[],[]⟩,⟨[14,15,16],some 17,[],[]⟩,⟨[14,17],some 18,[],[]⟩,⟨[14,18],some 19,[],[]⟩] (fun k4=>?_) ?_
   ·skip
    refine .move (.no Y) Y Y Y Y<|.move (.no Y) Y Y Y Y<|.indexStr (.no Y) Y (z:=byteAt s j) (j) t9 Y Y Y Y Y (b8_get (by omega)) Y Y<|.bin (.no Y) Y Y Y Y Y Y<|.moveB (.no Y) Y Y Y Y fun b5 g4_4=>?_
    cases b5
    ·skip
     refine .move (.on Y Y Y Y Y) Y Y Y Y<|.move (.on Y Y Y Y Y) Y Y Y Y<|.indexStr (.on Y Y Y Y Y) Y (z:=byteAt s j) (j) t9 Y Y Y Y Y (b8_get (by omega)) Y Y<|.bin (.on Y Y Y Y Y) Y Y Y Y Y Y<|.pick (.no Y) Y Y Y Y Y ?_
     exact .fin () (.of (.cons Y (.cons Y (.cons (svB (show (decide ((byteAt s j) > 122))=((decide ((byteAt s j) < 97)||decide ((byteAt s j) > 122))) by first | (simp only [g4_4,Bool.true_or,Bool.false_or,Bool.true_and,Bool.false_and,Bool.not_true,Bool.not_false]; done) | (simp [g4_4]; done) | (exfalso; simp_all; done))) .nil))) .nil)
    ·skip
     refine .off Y Y Y Y Y Y Y<|.off Y Y Y Y Y Y Y<|.off Y Y Y Y Y Y Y<|.off Y Y Y Y Y Y Y<|.pick (.no Y) Y Y Y Y Y ?_
     exact .fin () (.of (.cons Y (.cons Y (.cons (svB (show (true)=((decide ((byteAt s j) < 97)||decide ((byteAt s j) > 122))) by first | (simp only [g4_4,Bool.true_or,Bool.false_or,Bool.true_and,Bool.false_and,Bool.not_true,Bool.not_false]; done) | (simp [g4_4]; done) | (exfalso; simp_all; done))) .nil))) .nil)
   intro _
   refine .cond (t:=(decide ((byteAt s j) < 97)||decide ((byteAt s j) > 122))) Y (fun c1=>?_) (fun c1=>?_)
   ·have c1:=(oT dT dT) c1
    refine .seq<|.rs fun k6=>.as Y<|.z<|.ret ?_
    exact fin0 (.inr Y) (.one (svB (show (false)=(nmOk s) by (simp only [nmOk,letters]; rw [allTo_fail (j:=j) (by omega) (by have h9:=byteAt_le s j; simp only [decide_eq_false_iff_not]; omega)]; rfl))) .nil) (.dd .nil) Y
   ·have c1:=(oF dF dF) c1
    refine .skip<|.rs fun k8=>.mv Y<|.bi Y<|.as Y<|.z ?_
    exact .here (j+1) (.of (.cons Y (.cons (svI (show (IntKind.wrap .i64 ((j:Int)+1))=(((j+1):Int)) by first | rfl | omega | exact wrap_le (by omega) (by omega) | (rw [wrap_le (by omega) (by omega)]; omega))) .nil)) .nil) ⟨(show (j+1)≤s.size∧allTo (j+1) (fun i=>decide (97≤byteAt s i∧byteAt s i≤122))=true by exact ⟨by omega,allTo_step hI.2 (by simp only [decide_eq_true_eq]; omega)⟩),(show s.size - (j+1) < s.size - j by omega)⟩
  ·have c0:=of_decide_eq_false c0
   refine .exit<|.seq ?_
   refine .reg (X:=Unit) (fun ζ=>.of [(2,.one (.d (.v (.bool ((inR (s.size:Int) 1 8&&!(isKey s)))))))] []) [⟨[0],some 20,[],[]⟩,⟨[20],some 21,[],[]⟩,⟨[21],some 22,[],[]⟩,⟨[22],some 23,[],[]⟩,⟨[23,0],some 24,[],[]⟩,⟨[23,24],some 25,[],[]⟩,⟨[23,25],some 26,[],[]⟩,⟨[23,26],some 27,[],[]⟩,⟨[27],some 2,[],[]⟩] (fun k9=>?_) ?_
   ·skip
    refine .move (.no Y) Y Y Y Y<|.lenStr (.no Y) Y t9 Y Y Y Y Y<|.call (.no Y) Y [] [] (c_l1In (s.size:Int) 1 8) Y Y Y Y Y (.dd (.dd (.dd .nil))) Y Y (fun h=>absurd Y h) (.own [22,0] .nil) (.nil) Y Y Y (by simp) Y Y Y<|.moveB (.no Y) Y Y Y Y fun b10 g6_3=>?_
    cases b10
    ·skip
     refine .off Y Y Y Y Y Y Y<|.off Y Y Y Y Y Y Y<|.off Y Y Y Y Y Y Y<|.pick (.no Y) Y Y Y Y Y<|.assign (.no Y) Y Y Y Y ?_
     exact .fin () (.of (.cons (svB (show (false)=((inR (s.size:Int) 1 8&&!(isKey s))) by first | (simp only [g6_3,Bool.true_or,Bool.false_or,Bool.true_and,Bool.false_and,Bool.not_true,Bool.not_false]; done) | (simp [g6_3]; done) | (exfalso; simp_all; done))) .nil) .nil)
    ·skip
     refine .move (.on Y Y Y Y Y) Y Y Y Y<|.call (.on Y Y Y Y Y) Y [] [] (c_l3Key s) Y Y Y Y Y (.dd .nil) Y Y (fun h=>absurd Y h) (.own [25,0] .nil) (.nil) Y Y Y (by simp) Y Y Y<|.un (.on Y Y Y Y Y) Y Y Y Y Y<|.pick (.no Y) Y Y Y Y Y<|.assign (.no Y) Y Y Y Y ?_
     exact .fin () (.of (.cons (svB (show (!(isKey s))=((inR (s.size:Int) 1 8&&!(isKey s))) by first | (simp only [g6_3,Bool.true_or,Bool.false_or,Bool.true_and,Bool.false_and,Bool.not_true,Bool.not_false]; done) | (simp [g6_3]; done) | (exfalso; simp_all; done))) .nil) .nil)
   intro _
   refine .ret ?_
   exact fin0 (.inr Y) (.one (svB (show ((inR (s.size:Int) 1 8&&!(isKey s)))=(nmOk s) by (have hj:j=s.size:=(by omega); subst hj; simp only [nmOk,letters]; rw [hI.2]; first | rfl | simp_all))) .nil) (.dd .nil) Y
theorem c_l3Place (l:List ByteArray) (s:ByteArray):Trip Tryd.prog 73 [(false,1),(false,1)] ([.sl false 9 1 (List.map strc (l))]++[.v (.string (s))]) [(false,1)] [.v (.int .i64 (place l s))] []:=by
 refine Trip.of Tryd.func73 (by decide) (c:=_) Y Y (Nat.le_of_ble_eq_true Y) Y (AftOk.nil _)<|.sl (t:=0) Y fun hs1l=>.seq<|.rs fun k2=>.as Y<|.z<|.seq<|.seq<|.rs fun k3=>?_
 refine .as Y<|.z<|.block ?_
 refine .loop (X:=Nat) (fun ζ=>.of [(0,.one (.d (.sl false 9 1 (List.map strc (l))))),(1,.one (.d (.v (.string (s))))),(5,.one (.d (.v (.int .i64 ((ζ:Int))))))] []) (fun ζ=>ζ≤l.length∧allTo ζ (fun i=>!strEq (l.getD i default) s)=true) (fun ζ=>l.length - ζ) ?_ ?_
 ·skip
  exact .here 0 (.of (.cons Y (.cons Y (.cons (svI (show (0)=((0:Int)) by first | rfl | omega | exact wrap_le (by omega) (by omega) | (rw [wrap_le (by omega) (by omega)]; omega))) .nil))) .nil) (show 0≤l.length∧allTo 0 (fun i=>!strEq (l.getD i default) s)=true by exact ⟨by omega,rfl⟩)
 ·rintro j hI
  have hI:j≤l.length∧allTo j (fun i=>!strEq (l.getD i default) s)=true:=hI
  refine .seq<|.seq<|.rs fun k4=>.mv Y<|.mv Y<|.g (fun _ τ=>⟨_,.len (.no Y) Y (z:=(l.length:Int)) t33 Y Y Y (.d _ _) (map_len _ _) Y τ⟩)<|.bi Y<|.z ?_
  refine .cond (t:=decide ((j:Int) < (l.length:Int))) Y (fun c0=>?_) (fun c0=>?_)
  ·have c0:=of_decide_eq_true c0
   refine .skip<|.seq<|.block<|.seq<|.rs fun k5=>.mv Y<|.mv Y<|.g (fun _ τ=>⟨_,.indexAddr (.no Y) Y (j) t33 Y t9 Y Y Y (.d _ _) Y Y Y (map_get (by omega)) Y Y τ⟩)<|.ld t9 Y (.d _) Y ?_
   refine .mv Y<|.bi Y<|.z ?_
   refine .cond (t:=(l.getD j default).toList == s.toList) Y (fun c1=>?_) (fun c1=>?_)
   ·have c1:=c1
    refine .seq<|.rs fun k6=>.mv Y<|.as Y<|.z<|.ret ?_
    exact fin0 (.inr Y) (.one (svI (show ((j:Int))=(place l s) by exact (idx_found (p:=fun x=>strEq x s) (by omega) hI.2 c1).symm)) .nil) (.dd .nil) Y
   ·have c1:=c1
    refine .skip<|.rs fun k8=>.mv Y<|.bi Y<|.as Y<|.z ?_
    exact .here (j+1) (.of (.cons Y (.cons Y (.cons (svI (show (IntKind.wrap .i64 ((j:Int)+1))=(((j+1):Int)) by first | rfl | omega | exact wrap_le (by omega) (by omega) | (rw [wrap_le (by omega) (by omega)]; omega))) .nil))) .nil) ⟨(show (j+1)≤l.length∧allTo (j+1) (fun i=>!strEq (l.getD i default) s)=true by exact ⟨by omega,allTo_step hI.2 (by rw [show strEq (l.getD j default) s=false from c1]; rfl)⟩),(show l.length - (j+1) < l.length - j by omega)⟩
  ·have c0:=of_decide_eq_false c0
   refine .exit<|.seq<|.rs fun k9=>.as Y<|.z<|.ret ?_
   exact fin0 (.inr Y) (.one (svI (show (-1)=(place l s) by exact (idx_none (p:=fun x=>strEq x s) (j:=j) (by omega) hI.2).symm)) .nil) (.dd .nil) Y
end Go.Proofs

namespace Go.Proofs
open Go Go.Proofs Go.Ev

def Arr.c (x:Arr):List D:=[.v (.string (x.name)),.v (.int .i64 (x.size))]
theorem Arr.c_o (x:Arr):∀ d∈Arr.c x,Owned d:=by simp [Arr.c,Owned.v]
theorem Arr.c_e (x:Arr):(Arr.c x).map D.erase=Arr.c x:=by simp [Arr.c,D.erase_v]
def Decl.c36 (x:Decl):List D:=[.sl false 9 1 (List.map strc (x.vars)),.sl false 9 1 (List.map strc (x.flags)),.sl false 78 2 (List.map Arr.c (x.arrays))]
theorem Decl.c36_e (x:Decl):(Decl.c36 x).map D.erase=Decl.c36 x:=by simp [Decl.c36,D.erase_v,erase_slo _ _ _ _ _ _ strc_e,erase_slo _ _ _ _ _ _ Arr.c_e]
def Decl.co36 (x:Decl):List D:=[.sl true 9 1 (List.map strc (x.vars)),.sl true 9 1 (List.map strc (x.flags)),.sl true 78 2 (List.map Arr.c (x.arrays))]
theorem Decl.co36_e (x:Decl):(Decl.co36 x).map D.erase=Decl.c36 x:=by simp [Decl.co36,Decl.c36,D.erase_v,erase_slo _ _ _ _ _ _ strc_e,erase_slo _ _ _ _ _ _ Arr.c_e]
theorem Decl.co36_o (x:Decl):∀ d∈Decl.co36 x,Owned d:=by simp [Decl.co36,Owned.v,Owned.map _ _ _ _ strc_o,Owned.map _ _ _ _ Arr.c_o]
def i2:TI:=⟨.int .i64,1,8,[.int .i64 0]⟩
theorem t2:TyOk Tryd.prog 2 i2:=⟨Tryd.underlying2,by kernel_rfl⟩
theorem z2:ZOk Tryd.prog 2 i2:=⟨t2,rfl⟩
def i34:TI:=⟨.sl 78,1,24,[.slice none 0 0]⟩
theorem t34:TyOk Tryd.prog 34 i34:=⟨Tryd.underlying34,by kernel_rfl⟩
theorem z34:ZOk Tryd.prog 34 i34:=⟨t34,rfl⟩
def i36:TI:=⟨.st [(0,33),(1,33),(2,34)],3,72,[.slice none 0 0,.slice none 0 0,.slice none 0 0]⟩
theorem t36:TyOk Tryd.prog 36 i36:=⟨⟨_,Tryd.underlying36,rfl⟩,by kernel_rfl⟩
theorem z36:ZOk Tryd.prog 36 i36:=⟨t36,rfl⟩
theorem p36:Places Tryd.prog [(0,33),(1,33),(2,34)] [(0,1),(1,1),(2,1)]:=by unfold Places; kernel_rfl
def i78:TI:=⟨.st [(0,9),(1,2)],2,24,[.string .empty,.int .i64 0]⟩
theorem t78:TyOk Tryd.prog 78 i78:=⟨⟨_,Tryd.underlying78,rfl⟩,by kernel_rfl⟩
theorem z78:ZOk Tryd.prog 78 i78:=⟨t78,rfl⟩
theorem p78:Places Tryd.prog [(0,9),(1,2)] [(0,1),(1,1)]:=by unfold Places; kernel_rfl
theorem c_sDeclOk (d:Decl) (hs:∀ x∈Decl.names d,x.size≤9223372036854775807) (hb:d.vars.length≤1048576∧d.flags.length≤1048576∧d.arrays.length≤1048576):Trip Tryd.prog 46 [(true,3)] (Decl.c36 d) [(false,1)] [.v (.bool (Decl.ok d))] []:=by
 refine Trip.of Tryd.func46 (by decide) (c:=_) Y Y (Nat.le_of_ble_eq_true Y) Y (AftOk.nil _)<|.sla (t:=0) 0 Y Y fun hs1l=>.sla (t:=0) 1 Y Y fun hs2l=>.sla (t:=0) 2 Y Y fun hs3l=>.seq<|.rs fun k4=>.g (fun _ τ=>⟨_,.box (.no Y) Y Y Y Y Y τ⟩)<|.as Y<|.z ?_
 refine .seq<|.seq ?_
 refine .reg (X:=Unit) (fun ζ=>.of [(1,.one (.ptr [1] (k4) 0)),(21,.one (.d (.v (.bool (((decide ((d.vars.length:Int) > 5)||decide ((d.flags.length:Int) > 3))||decide ((d.arrays.length:Int) > 2)))))))] [([1],(k4,k4,.box [.d (.sl false 9 1 (List.map strc (d.vars))),.d (.sl false 9 1 (List.map strc (d.flags))),.d (.sl false 78 2 (List.map Arr.c (d.arrays)))]))]) [⟨[1],some 6,[],[]⟩,⟨[6],some 7,[[1]],[]⟩,⟨[7],some 8,[],[]⟩,⟨[8],some 9,[],[]⟩,⟨[9],some 10,[],[]⟩,⟨[10,1],some 11,[],[]⟩,⟨[10,11],some 12,[[1]],[]⟩,⟨[10,12],some 13,[],[]⟩,⟨[10,13],some 14,[],[]⟩,⟨[10,14],some 15,[],[]⟩,⟨[15],some 16,[],[]⟩,⟨[16,1],some 17,[],[]⟩,⟨[16,17],some 18,[[1]],[]⟩,⟨[16,18],some 19,[],[]⟩,⟨[16,19],some 20,[],[]⟩,⟨[16,20],some 21,[],[]⟩] (fun k5=>?_) ?_
 ·skip
  refine .fieldAddrP (.no Y) Y t36 Y Y t33 Y Y Y Y<|.load (.no Y) Y t33 Y Y (.ptr _ _ _ _ _ Y) Y Y Y Y<|.len (.no Y) Y (z:=(d.vars.length:Int)) t33 Y Y Y (.d _ _) (map_len _ _) Y<|.bin (.no Y) Y Y Y Y Y Y<|.moveB (.no Y) Y Y Y Y fun b6 g1_4=>?_
  cases b6
  ·skip
   refine .fieldAddrP (.on Y Y Y Y Y) Y t36 Y Y t33 Y Y Y Y<|.load (.on Y Y Y Y Y) Y t33 Y Y (.ptr _ _ _ _ _ Y) Y Y Y Y<|.len (.on Y Y Y Y Y) Y (z:=(d.flags.length:Int)) t33 Y Y Y (.d _ _) (map_len _ _) Y<|.bin (.on Y Y Y Y Y) Y Y Y Y Y Y<|.pick (.no Y) Y Y Y Y Y<|.moveB (.no Y) Y Y Y Y fun b7 g1_10=>?_
   cases b7
   ·skip
    refine .fieldAddrP (.on Y Y Y Y Y) Y t36 Y Y t34 Y Y Y Y<|.load (.on Y Y Y Y Y) Y t34 Y Y (.ptr _ _ _ _ _ Y) Y Y Y Y<|.len (.on Y Y Y Y Y) Y (z:=(d.arrays.length:Int)) t34 Y Y Y (.d _ _) (map_len _ _) Y<|.bin (.on Y Y Y Y Y) Y Y Y Y Y Y<|.pick (.no Y) Y Y Y Y Y ?_
    exact .fin () (.of (.cons Y (.cons (svB (show (decide ((d.arrays.length:Int) > 2))=(((decide ((d.vars.length:Int) > 5)||decide ((d.flags.length:Int) > 3))||decide ((d.arrays.length:Int) > 2))) by first | (simp only [g1_4,g1_10,Bool.true_or,Bool.false_or,Bool.true_and,Bool.false_and,Bool.not_true,Bool.not_false]; done) | (simp [g1_4,g1_10]; done) | (exfalso; simp_all; done))) .nil)) (.r Y))
   ·skip
    refine .off Y Y Y Y Y Y Y<|.off Y Y Y Y Y Y Y<|.off Y Y Y Y Y Y Y<|.off Y Y Y Y Y Y Y<|.pick (.no Y) Y Y Y Y Y ?_
    exact .fin () (.of (.cons Y (.cons (svB (show (true)=(((decide ((d.vars.length:Int) > 5)||decide ((d.flags.length:Int) > 3))||decide ((d.arrays.length:Int) > 2))) by first | (simp only [g1_4,g1_10,Bool.true_or,Bool.false_or,Bool.true_and,Bool.false_and,Bool.not_true,Bool.not_false]; done) | (simp [g1_4,g1_10]; done) | (exfalso; simp_all; done))) .nil)) (.r Y))
  ·skip
   refine .off Y Y Y Y Y Y Y<|.off Y Y Y Y Y Y Y<|.off Y Y Y Y Y Y Y<|.off Y Y Y Y Y Y Y<|.pick (.no Y) Y Y Y Y Y<|.move (.no Y) Y Y Y Y<|.off Y Y Y Y Y Y Y<|.off Y Y Y Y Y Y Y<|.off Y Y Y Y Y Y Y ?_
   refine .off Y Y Y Y Y Y Y<|.pick (.no Y) Y Y Y Y Y ?_
   exact .fin () (.of (.cons Y (.cons (svB (show (true)=(((decide ((d.vars.length:Int) > 5)||decide ((d.flags.length:Int) > 3))||decide ((d.arrays.length:Int) > 2))) by first | (simp only [g1_4,Bool.true_or,Bool.false_or,Bool.true_and,Bool.false_and,Bool.not_true,Bool.not_false]; done) | (simp [g1_4]; done) | (exfalso; simp_all; done))) .nil)) (.r Y))
 intro _
 refine .cond (t:=((decide ((d.vars.length:Int) > 5)||decide ((d.flags.length:Int) > 3))||decide ((d.arrays.length:Int) > 2))) Y (fun c0=>?_) (fun c0=>?_)
 ·have c0:=(oT (oT dT dT) dT) c0
  refine .seq<|.rs fun k8=>.as Y<|.z<|.ret ?_
  exact fin0 (.inr Y) (.one (svB (show (false)=(Decl.ok d) by exact (Decl.ok_ne (by omega)).symm)) .nil) (.dd .nil) Y
 ·have c0:=(oF (oF dF dF) dF) c0
  refine .skip<|.seq ?_
  refine .regD (X:=Nat) (by kernel_rfl) (fun ζ=>.of [(1,.one (.ptr [1] (k4) 0)),(3,.one (.ref [22] (ζ)))] [([1],(k4,k4,.box [.d (.sl false 9 1 (List.map strc (d.vars))),.d (.sl false 9 1 (List.map strc (d.flags))),.d (.sl false 78 2 (List.map Arr.c (d.arrays)))])),([22],(ζ,ζ,.row 9 1 (List.map strc (d.vars++d.flags))))]) [⟨[],some 22,[],[[22]]⟩,⟨[1],some 23,[],[]⟩,⟨[23],some 24,[[1]],[]⟩,⟨[22,24],some 25,[[22]],[[22]]⟩,⟨[1],some 26,[],[]⟩,⟨[26],some 27,[[1]],[]⟩,⟨[25,27],some 28,[[22]],[[22]]⟩,⟨[28],some 3,[],[]⟩] (by kernel_rfl) (fun k10=>?_) ?_
  ·skip
   refine .buildSlice (.no Y) Y (els:=[]) t33 Y z9 Y Y Y Y Y Y Y Y (by simp [i9]) .nil Y Y Y<|.fieldAddrP (.no Y) Y t36 Y Y t33 Y Y Y Y<|.load (.no Y) Y t33 Y Y (.ptr _ _ _ _ _ Y) Y Y Y Y<|.append (.no Y) Y (l3:=List.map strc (d.vars)) t33 Y z9 Y Y Y Y Y Y Y Y (.ref _ _ _ _ Y) (.ro _ _) Y (by simp [i9]; omega) (List.nil_append _) Y Y<|.fieldAddrP (.no Y) Y t36 Y Y t33 Y Y Y Y<|.load (.no Y) Y t33 Y Y (.ptr _ _ _ _ _ Y) Y Y Y Y<|.append (.no Y) Y (l3:=List.map strc (d.vars++d.flags)) t33 Y z9 Y Y Y Y Y Y Y Y (.ref _ _ _ _ Y) (.ro _ _) Y (by simp [i9]; omega) (map_app _ _ _) Y Y<|.assign (.no Y) Y Y Y Y ?_
   exact .fin (k10+1+1+1+1+1+1) (.of (.r Y) (.r Y))
  intro g11
  refine .seq<|.seq<|.rs fun k12=>.as Y<|.z<|.block ?_
  refine .loop (X:=Nat × Nat × Nat) (fun ζ=>.of [(1,.one (.ptr [1] (k4) 0)),(3,.one (.ref [22] (ζ.2.1))),(4,.one (.d (.v (.int .i64 ((ζ.1:Int))))))] [([1],(k4,k4,.box [.d (.sl false 9 1 (List.map strc (d.vars))),.d (.sl false 9 1 (List.map strc (d.flags))),.d (.sl false 78 2 (List.map Arr.c (d.arrays)))])),([22],(ζ.2.1,ζ.2.2,.row 9 1 (List.map strc (d.vars++d.flags++(d.arrays.take ζ.1).map Arr.name))))]) (fun ζ=>ζ.1≤d.arrays.length∧allTo ζ.1 (fun i=>inR (d.arrays.getD i default).size 1 16)=true) (fun ζ=>d.arrays.length - ζ.1) ?_ ?_
  ·skip
   exact .here (0,g11,g11) (.of (.cons Y (.cons Y (.cons (svI (show (0)=((0:Int)) by first | rfl | omega | exact wrap_le (by omega) (by omega) | (rw [wrap_le (by omega) (by omega)]; omega))) .nil))) (.cons Y (.cons (rowE (show List.map strc (d.vars++d.flags)=List.map strc (d.vars++d.flags++(d.arrays.take 0).map Arr.name) by first | (simp; done) | (rw [List.append_assoc (d.vars++d.flags),take_step (f:=Arr.name) (by omega)]) | (simp only [Decl.names]; rw [List.take_of_length_le (by omega)]))) .nil))) (show 0≤d.arrays.length∧allTo 0 (fun i=>inR (d.arrays.getD i default).size 1 16)=true by exact ⟨by omega,rfl⟩)
  ·rintro ⟨j,q13,q14⟩ hI
   have hI:j≤d.arrays.length∧allTo j (fun i=>inR (d.arrays.getD i default).size 1 16)=true:=hI
   dsimp only
   refine .seq<|.seq<|.rs fun k15=>.mv Y<|.fp t36 t34 Y<|.ld t34 Y (.ptr _ _ _ _ _ Y) Y<|.g (fun _ τ=>⟨_,.len (.no Y) Y (z:=(d.arrays.length:Int)) t34 Y Y Y (.d _ _) (map_len _ _) Y τ⟩)<|.bi Y<|.z ?_
   refine .cond (t:=decide ((j:Int) < (d.arrays.length:Int))) Y (fun c1=>?_) (fun c1=>?_)
   ·have c1:=of_decide_eq_true c1
    refine .skip<|.seq<|.block<|.seq<|.seq<|.rs fun k16=>.fp t36 t34 Y<|.ld t34 Y (.ptr _ _ _ _ _ Y) Y<|.mv Y ?_
    refine .g (fun _ τ=>⟨_,.indexAddr (.no Y) Y (j) t34 Y t78 Y Y Y (.d _ _) Y Y Y (map_get (by omega)) Y Y τ⟩)<|.g (fun _ τ=>⟨_,.fieldAddr (.no Y) Y t78 Y Y t2 Y Y Y Y [] (by simp) (by intro _ _ _ h; cases h) Y Y τ⟩)<|.ld t2 Y (.d _) Y<|.c0 (c_l1In ((d.arrays.getD j default).size) 1 16) Y (.dd (.dd (.dd .nil))) (.own [42,0] .nil) Y<|.un Y<|.z ?_
    refine .cond (t:=!(inR ((d.arrays.getD j default).size) 1 16)) Y (fun c2=>?_) (fun c2=>?_)
    ·have c2:=(nT id) c2
     refine .seq<|.rs fun k17=>.as Y<|.z<|.ret ?_
     exact fin0 (.inr Y) (.one (svB (show (false)=(Decl.ok d) by exact (Decl.ok_size (j:=j) (by omega) c2).symm)) .nil) (.dd .nil) Y
    ·have c2:=(nF id) c2
     refine .skip<|.rs fun k19=>.mv Y<|.fp t36 t34 Y<|.ld t34 Y (.ptr _ _ _ _ _ Y) Y<|.mv Y<|.g (fun _ τ=>⟨_,.indexAddr (.no Y) Y (j) t34 Y t78 Y Y Y (.d _ _) Y Y Y (map_get (by omega)) Y Y τ⟩)<|.g (fun _ τ=>⟨_,.fieldAddr (.no Y) Y t78 Y Y t9 Y Y Y Y [] (by simp) (by intro _ _ _ h; cases h) Y Y τ⟩)<|.ld t9 Y (.d _) Y ?_
     refine .g (fun _ τ=>⟨_,.buildSlice (.no Y) Y (els:=[[.v (.string ((d.arrays.getD j default).name))]]) t33 Y z9 Y Y Y Y Y Y Y Y (by simp [i9]) (.cons _ _ _ _ _ _ (.d _) .nil) Y Y Y τ⟩)<|.g (fun _ τ=>⟨_,.append (.no Y) Y (l3:=List.map strc (d.vars++d.flags++(d.arrays.take j).map Arr.name++[(d.arrays.getD j default).name])) t33 Y z9 Y Y Y Y Y Y Y Y (.ref _ _ _ _ Y) (.take _ _ _ _ _ Y) Y (by simp [i9]; omega) (map_snoc _ _ _) Y Y τ⟩)<|.as Y<|.z<|.rs fun k20=>.mv Y<|.bi Y<|.as Y<|.z ?_
     exact .here ((j+1),(k19+1+1+1+1+1+1+1+1),(k19+1+1+1+1+1+1+1+1)) (.of (.cons Y (.cons (by show SV.one (.ref [22] (k19+1+1+1+1+1+1+1+1))=SV.one (.ref [22] ((k19+1+1+1+1+1+1+1+1))); first | rfl | simp_all) (.cons (svI (show (IntKind.wrap .i64 ((j:Int)+1))=(((j+1):Int)) by first | rfl | omega | exact wrap_le (by omega) (by omega) | (rw [wrap_le (by omega) (by omega)]; omega))) .nil))) (.cons Y (.cons (rowE (show List.map strc (d.vars++d.flags++(d.arrays.take j).map Arr.name++[(d.arrays.getD j default).name])=List.map strc (d.vars++d.flags++(d.arrays.take (j+1)).map Arr.name) by first | (simp; done) | (rw [List.append_assoc (d.vars++d.flags),take_step (f:=Arr.name) (by omega)]) | (simp only [Decl.names]; rw [List.take_of_length_le (by omega)]))) .nil))) ⟨(show (j+1)≤d.arrays.length∧allTo (j+1) (fun i=>inR (d.arrays.getD i default).size 1 16)=true by exact ⟨by omega,allTo_step hI.2 (by simpa using c2)⟩),(show d.arrays.length - (j+1) < d.arrays.length - j by omega)⟩
   ·have c1:=of_decide_eq_false c1
    refine .exit<|.seq<|.seq<|.rs fun k21=>.as Y<|.z<|.block ?_
    refine .loop (X:=Nat × Nat × Nat) (fun ζ=>.of [(3,.one (.ref [22] (ζ.2.1))),(5,.one (.d (.v (.int .i64 ((ζ.1:Int))))))] [([22],(ζ.2.1,ζ.2.2,.row 9 1 (List.map strc (Decl.names d))))]) (fun ζ=>ζ.1≤(Decl.names d).length∧allTo ζ.1 (nameOk (Decl.names d))=true) (fun ζ=>(Decl.names d).length - ζ.1) ?_ ?_
    ·skip
     exact .here (0,q13,q14) (.of (.cons Y (.cons (svI (show (0)=((0:Int)) by first | rfl | omega | exact wrap_le (by omega) (by omega) | (rw [wrap_le (by omega) (by omega)]; omega))) .nil)) (.cons (rowE (show List.map strc (d.vars++d.flags++(d.arrays.take j).map Arr.name)=List.map strc (Decl.names d) by first | (simp; done) | (rw [List.append_assoc (d.vars++d.flags),take_step (f:=Arr.name) (by omega)]) | (simp only [Decl.names]; rw [List.take_of_length_le (by omega)]))) .nil)) (show 0≤(Decl.names d).length∧allTo 0 (nameOk (Decl.names d))=true by exact ⟨by omega,rfl⟩)
    ·rintro ⟨i,q22,q23⟩ hI
     have hI:i≤(Decl.names d).length∧allTo i (nameOk (Decl.names d))=true:=hI
     have hI0:=‹j≤d.arrays.length∧_›
     have hn9:(Decl.names d).length≤3145728:=by simp [Decl.names]; omega
     dsimp only
     refine .seq<|.seq<|.rs fun k24=>.mv Y<|.mv Y<|.g (fun _ τ=>⟨_,.len (.no Y) Y (z:=((Decl.names d).length:Int)) t33 Y Y Y (.ref _ _ _ _ _ Y) (map_len _ _) Y τ⟩)<|.bi Y<|.z ?_
     refine .cond (t:=decide ((i:Int) < ((Decl.names d).length:Int))) Y (fun c3=>?_) (fun c3=>?_)
     ·have c3:=of_decide_eq_true c3
      refine .skip<|.seq<|.block<|.seq ?_
      refine .regD (X:=Unit) (by kernel_rfl) (fun ζ=>.of [(3,.one (.ref [22] (q22))),(5,.one (.d (.v (.int .i64 ((i:Int)))))),(75,.one (.d (.v (.bool ((!(nmOk ((Decl.names d).getD (i) default))||decide ((place ((Decl.names d).take i) ((Decl.names d).getD (i) default))≥0)))))))] [([22],(q22,q23,.row 9 1 (List.map strc (Decl.names d))))]) [⟨[3],some 59,[],[]⟩,⟨[5],some 60,[],[]⟩,⟨[59,60],some 61,[[22]],[]⟩,⟨[61],some 62,[[22]],[]⟩,⟨[62],some 63,[],[]⟩,⟨[63],some 64,[],[]⟩,⟨[64],some 65,[],[]⟩,⟨[65,3],some 66,[],[]⟩,⟨[65,5],some 67,[],[]⟩,⟨[65,66,67],some 68,[[22]],[]⟩,⟨[65,3],some 69,[],[]⟩,⟨[65,5],some 70,[],[]⟩,⟨[65,69,70],some 71,[[22]],[]⟩,⟨[65,71],some 72,[[22]],[]⟩,⟨[65,68,72],some 73,[[22]],[]⟩,⟨[65,73],some 74,[],[]⟩,⟨[65,74],some 75,[],[]⟩] (by kernel_rfl) (fun k25=>?_) ?_
      ·skip
       refine .move (.no Y) Y Y Y Y<|.move (.no Y) Y Y Y Y<|.indexAddr (.no Y) Y (i) t33 Y t9 Y Y Y (.ref _ _ _ _ _ Y) Y Y Y (map_get (by omega)) Y Y<|.load (.no Y) Y t9 Y Y (.eptr _ _ _ _ _ _ _ _ _ Y (map_get (by omega))) Y Y Y Y<|.call (.no Y) Y [] [] (c_l3Name ((Decl.names d).getD (i) default) (by exact hs _ (getD_mem (by omega)))) Y Y Y Y Y (.dd .nil) Y Y (fun h=>absurd Y h) (.own [63,0] .nil) (.nil) Y Y Y (by simp) Y Y Y<|.un (.no Y) Y Y Y Y Y<|.moveB (.no Y) Y Y Y Y fun b26 g13_6=>?_
       cases b26
       ·skip
        refine .move (.on Y Y Y Y Y) Y Y Y Y<|.move (.on Y Y Y Y Y) Y Y Y Y<|.slice (.on Y Y Y Y Y) Y (lv:=0) (hv:=i) (m:=q23) t33 Y t9 Y Y (.ref _ _ _ _ _ Y) Y (by intro _ _ h; cases h; exact ⟨_,.head _⟩) (by exact rfl) (by exact ⟨_,rfl⟩) (Nat.zero_le _) (le_map (by omega)) Y Y<|.move (.on Y Y Y Y Y) Y Y Y Y<|.move (.on Y Y Y Y Y) Y Y Y Y<|.indexAddr (.on Y Y Y Y Y) Y (i) t33 Y t9 Y Y Y (.ref _ _ _ _ _ Y) Y Y Y (map_get (by omega)) Y Y<|.load (.on Y Y Y Y Y) Y t9 Y Y (.eptr _ _ _ _ _ _ _ _ _ Y (map_get (by omega))) Y Y Y Y ?_
        refine .call (.on Y Y Y Y Y) Y [[22]] [([22],(q22,q23,.row 9 1 (List.map strc (Decl.names d))))] (c_l3Place ((Decl.names d).take i) ((Decl.names d).getD (i) default)) Y Y Y Y Y (.cons (Reads.cut (Frz.of_erase (erase_takeo _ _ _ _ _ _ strc_e)) (le_map (by omega)) (.head _) (.head _)).gives (.dd .nil)) Y Y (fun _=>(ownCons (Owned.v _) ownNil)) (.own [73,0] .nil) (.nil) Y Y Y (AllH.get (.r Y)) Y Y Y<|.bin (.on Y Y Y Y Y) Y Y Y Y Y Y<|.pick (.no Y) Y Y Y Y Y ?_
        exact .fin () (.of (.cons Y (.cons Y (.cons (svB (show (decide ((place ((Decl.names d).take i) ((Decl.names d).getD (i) default))≥0))=((!(nmOk ((Decl.names d).getD (i) default))||decide ((place ((Decl.names d).take i) ((Decl.names d).getD (i) default))≥0))) by first | (simp only [g13_6,Bool.true_or,Bool.false_or,Bool.true_and,Bool.false_and,Bool.not_true,Bool.not_false]; done) | (simp [g13_6]; done) | (exfalso; simp_all; done))) .nil))) (.r Y))
       ·skip
        refine .off Y Y Y Y Y Y Y<|.off Y Y Y Y Y Y Y<|.off Y Y Y Y Y Y Y<|.off Y Y Y Y Y Y Y<|.off Y Y Y Y Y Y Y<|.off Y Y Y Y Y Y Y<|.off Y Y Y Y Y Y Y<|.off Y Y Y Y Y Y Y<|.off Y Y Y Y Y Y Y ?_
        refine .pick (.no Y) Y Y Y Y Y ?_
        exact .fin () (.of (.cons Y (.cons Y (.cons (svB (show (true)=((!(nmOk ((Decl.names d).getD (i) default))||decide ((place ((Decl.names d).take i) ((Decl.names d).getD (i) default))≥0))) by first | (simp only [g13_6,Bool.true_or,Bool.false_or,Bool.true_and,Bool.false_and,Bool.not_true,Bool.not_false]; done) | (simp [g13_6]; done) | (exfalso; simp_all; done))) .nil))) (.r Y))
      intro _
      refine .cond (t:=(!(nmOk ((Decl.names d).getD (i) default))||decide ((place ((Decl.names d).take i) ((Decl.names d).getD (i) default))≥0))) Y (fun c4=>?_) (fun c4=>?_)
      ·have c4:=(oT (nT id) dT) c4
       refine .seq<|.rs fun k27=>.as Y<|.z<|.ret ?_
       exact fin0 (.inr Y) (.one (svB (show (false)=(Decl.ok d) by exact (Decl.ok_name (j:=i) (by omega) c4).symm)) .nil) (.dd .nil) Y
      ·have c4:=(oF (nF id) dF) c4
       refine .skip<|.rs fun k29=>.mv Y<|.bi Y<|.as Y<|.z ?_
       exact .here ((i+1),q22,q23) (.of (.cons Y (.cons (svI (show (IntKind.wrap .i64 ((i:Int)+1))=(((i+1):Int)) by first | rfl | omega | exact wrap_le (by omega) (by omega) | (rw [wrap_le (by omega) (by omega)]; omega))) .nil)) (.r Y)) ⟨(show (i+1)≤(Decl.names d).length∧allTo (i+1) (nameOk (Decl.names d))=true by exact ⟨by omega,allTo_step hI.2 (nameOk_of c4)⟩),(show (Decl.names d).length - (i+1) < (Decl.names d).length - i by omega)⟩
     ·have c3:=of_decide_eq_false c3
      refine .exit<|.seq<|.rs fun k30=>.as Y<|.z<|.ret ?_
      exact fin0 (.inr Y) (.one (svB (show (true)=(Decl.ok d) by exact (Decl.ok_done (by omega) hI0.2 (by omega) (j:=i) (by omega) hI.2).symm)) .nil) (.dd .nil) Y
end Go.Proofs

namespace Go.Proofs
open Go Go.Proofs Go.Ev

def slc33 (x:List ByteArray):List D:=[.sl false 9 1 (List.map strc (x))]
theorem slc33_e (x:List ByteArray):(slc33 x).map D.erase=slc33 x:=by simp [slc33,erase_slo _ _ _ _ _ _ strc_e]
def slco33 (x:List ByteArray):List D:=[.sl true 9 1 (List.map strc (x))]
theorem slco33_e (x:List ByteArray):(slco33 x).map D.erase=slc33 x:=by simp [slco33,slc33,erase_slo _ _ _ _ _ _ strc_e]
theorem slco33_o (x:List ByteArray):∀ d∈slco33 x,Owned d:=by simp [slco33,Owned.map _ _ _ _ strc_o]
def i3:TI:=⟨.int .i64,1,8,[.int .i64 0]⟩
theorem t3:TyOk Tryd.prog 3 i3:=⟨Tryd.underlying3,by kernel_rfl⟩
theorem z3:ZOk Tryd.prog 3 i3:=⟨t3,rfl⟩
def i116:TI:=⟨.sl 33,1,24,[.slice none 0 0]⟩
theorem t116:TyOk Tryd.prog 116 i116:=⟨Tryd.underlying116,by kernel_rfl⟩
theorem z116:ZOk Tryd.prog 116 i116:=⟨t116,rfl⟩
theorem c_Grow (n:Nat) (hn:n≤4194304):Trip Tryd.prog 112 [(false,1),(false,1)] ([.v (.slice none 0 0)]++[.v (.int .i64 ((n:Int)))]) [(false,1)] [.sl true 9 1 ([])] []:=by
 refine Trip.of Tryd.func112 (by decide) (c:=_) Y Y (Nat.le_of_ble_eq_true Y) Y (AftOk.nil _)<|.seq<|.rs fun k1=>.as Y<|.z<|.seq<|.seq<|.rs fun k2=>.mv Y ?_
 refine .bi Y<|.z ?_
 refine .cond (t:=decide ((n:Int) < 0)) Y (fun c0=>?_) (fun c0=>?_)
 ·have c0:=of_decide_eq_true c0
  exfalso; omega
 ·have c0:=of_decide_eq_false c0
  refine .skip<|.seq<|.seq<|.rs fun k3=>.mv Y<|.mv Y<|.g (fun _ τ=>⟨_,.capNil (.no Y) Y t33 Y Y Y Y τ⟩)<|.mv Y<|.g (fun _ τ=>⟨_,.len (.no Y) Y (z:=0) t33 Y Y Y (sz:=1) .nil Y Y τ⟩) ?_
  refine .bi (v:=.int .i64 (0)) Y<|.bi Y<|.as Y<|.z<|.seq<|.rs fun k4=>.mv Y<|.bi Y<|.z ?_
  refine .cond (t:=decide ((IntKind.wrap .i64 ((n:Int) - 0)) > 0)) Y (fun c1=>?_) (fun c1=>?_)
  ·have c1:=of_decide_eq_true c1
   refine .rs fun k5=>.mv Y<|.mv Y<|.g (fun _ τ=>⟨_,.capNil (.no Y) Y t33 Y Y Y Y τ⟩)<|.g (fun _ τ=>⟨_,.sliceNil (.no Y) Y t33 Y t9 Y Y (by exact rfl) (by exact ⟨_,rfl⟩) Y τ⟩)<|.mv Y<|.g (fun _ τ=>⟨_,.growNil (.no Y) Y (n0:=n) (els:=List.map strc (List.replicate n .empty)) t33 Y t3 Y z9 Y Y Y Y Y Y (by exact (wrap_le (by omega) (by omega)).trans (by omega)) (by (rw [wrap_le (by omega) (by omega)] at c1; omega)) (by simp [i9]; omega) (by omega) (rep_map _ _ _ Y) Y τ⟩)<|.mv Y<|.g (fun _ τ=>⟨_,.len (.no Y) Y (z:=0) t33 Y Y Y (sz:=1) .nil Y Y τ⟩) ?_
   refine .g (fun _ τ=>⟨_,.slice (.no Y) Y (lv:=0) (hv:=0) (m:=k5+1+1+1+1+1) t33 Y t9 Y Y (.ref _ _ _ _ _ Y) Y (by intro _ _ h; cases h; exact ⟨_,.head _⟩) (by exact rfl) (by exact ⟨_,rfl⟩) (Nat.zero_le _) (Nat.zero_le _) Y Y τ⟩)<|.as Y<|.z<|.seq<|.rs fun k6=>.mv Y<|.as Y<|.z<|.ret ?_
   exact fin1 (.inr Y) [] [([22],(k5+1+1+1+1+1,k5+1+1+1+1+1,.row 9 1 (List.map strc (List.replicate n .empty))))] (.one Y .nil) (.cons (.cut0 (.head _)) .nil) Y Y (.r Y)
  ·have c1:=of_decide_eq_false c1
   refine .skip<|.seq<|.rs fun k7=>.mv Y<|.as Y<|.z<|.ret ?_
   exact fin0 (.inr Y) (.one Y .nil) (.cons (Gives.nil' (by first | rfl | simp_all)) .nil) Y
theorem c_Concat (l:List (List ByteArray)) (hb:lens l≤4194304∧l.length≤1048576):Trip Tryd.prog 97 [(false,1)] ([.sl false 33 1 (List.map slc33 (l))]) [(false,1)] [.sl true 9 1 (List.map strc (l.flatten))] []:=by
 refine Trip.of Tryd.func97 (by decide) (c:=_) Y Y (Nat.le_of_ble_eq_true Y) Y (AftOk.nil _)<|.sl (t:=0) Y fun hs1l=>.seq<|.rs fun k2=>.as Y<|.z<|.seq<|.rs fun k3=>.as Y ?_
 refine .z<|.seq<|.seq<|.rs fun k4=>.mv Y<|.g (fun _ τ=>⟨_,.len (.no Y) Y (z:=(l.length:Int)) t116 Y Y Y (.d _ _) (map_len _ _) Y τ⟩)<|.mv Y<|.z<|.block ?_
 refine .loop (X:=Nat) (fun ζ=>.of [(0,.one (.d (.sl false 33 1 (List.map slc33 (l))))),(3,.one (.d (.v (.int .i64 ((lens (l.take ζ):Int)))))),(9,.one (.d (.sl false 33 1 (List.map slc33 (l))))),(10,.one (.d (.v (.int .i64 ((l.length:Int)))))),(11,.one (.d (.v (.int .i64 ((ζ:Int))))))] []) (fun ζ=>ζ≤l.length) (fun ζ=>l.length - ζ) ?_ ?_
 ·skip
  exact .here 0 (.of (.cons Y (.cons (svI (show (0)=((lens (l.take 0):Int)) by first | rfl | omega | exact wrap_le (by omega) (by omega) | (rw [wrap_le (by omega) (by omega)]; omega))) (.cons Y (.cons Y (.cons (svI (show (0)=((0:Int)) by first | rfl | omega | exact wrap_le (by omega) (by omega) | (rw [wrap_le (by omega) (by omega)]; omega))) .nil))))) .nil) (show 0≤l.length by omega)
 ·rintro j hI
  have hI:j≤l.length:=hI
  have hs9:=lens_take l j
  have hs8:=lens_le l (j+1)
  have hs7:=lens_le l j
  refine .seq<|.rs fun k5=>.bi Y<|.z<|.seq ?_
  refine .cond (t:=decide ((j:Int) < (l.length:Int))) Y (fun c0=>?_) (fun c0=>?_)
  ·have c0:=of_decide_eq_true c0
   refine .skip<|.seq<|.block<|.seq<|.rs fun k6=>.g (fun _ τ=>⟨_,.indexAddr (.no Y) Y (j) t116 Y t33 Y Y Y (.d _ _) Y Y Y (map_get (by omega)) Y Y τ⟩)<|.ld t33 Y (.d _) Y<|.as Y<|.z ?_
   refine .seq<|.rs fun k7=>.mv Y<|.mv Y<|.g (fun _ τ=>⟨_,.len (.no Y) Y (z:=((l.getD j default).length:Int)) t33 Y Y Y (.d _ _) (map_len _ _) Y τ⟩)<|.bi Y<|.as Y<|.z<|.seq ?_
   refine .rs fun k8=>.mv Y<|.bi Y<|.z ?_
   refine .cond (t:=decide ((IntKind.wrap .i64 ((lens (l.take j):Int)+((l.getD j default).length:Int))) < 0)) Y (fun c1=>?_) (fun c1=>?_)
   ·have c1:=of_decide_eq_true c1
    exfalso; (rw [wrap_le (by omega) (by omega)] at c1; omega)
   ·have c1:=of_decide_eq_false c1
    refine .skip<|.rs fun k9=>.bi Y<|.mv Y<|.z ?_
    exact .here (j+1) (.of (.cons Y (.cons (svI (show (IntKind.wrap .i64 ((lens (l.take j):Int)+((l.getD j default).length:Int)))=((lens (l.take (j+1)):Int)) by first | rfl | omega | exact wrap_le (by omega) (by omega) | (rw [wrap_le (by omega) (by omega)]; omega))) (.cons Y (.cons Y (.cons (svI (show (IntKind.wrap .i64 ((j:Int)+1))=(((j+1):Int)) by first | rfl | omega | exact wrap_le (by omega) (by omega) | (rw [wrap_le (by omega) (by omega)]; omega))) .nil))))) .nil) ⟨(show (j+1)≤l.length by omega),(show l.length - (j+1) < l.length - j by omega)⟩
  ·have c0:=of_decide_eq_false c0
   refine .exit<|.seq<|.rs fun k10=>.mv Y<|.c0 (c_Grow (lens (l.take j)) (by omega)) Y (.dd (.dd .nil)) (.own [24,0] .nil) Y<|.as Y<|.z<|.seq<|.seq ?_
   refine .rs fun k11=>.mv Y<|.g (fun _ τ=>⟨_,.len (.no Y) Y (z:=(l.length:Int)) t116 Y Y Y (.d _ _) (map_len _ _) Y τ⟩)<|.mv Y<|.z<|.block ?_
   refine .loop (X:=Nat × Nat × Nat) (fun ζ=>.of [(6,.one (.ref [24,0] (ζ.2.1))),(25,.one (.d (.sl false 33 1 (List.map slc33 (l))))),(26,.one (.d (.v (.int .i64 ((l.length:Int)))))),(27,.one (.d (.v (.int .i64 ((ζ.1:Int))))))] [([24,0],(ζ.2.1,ζ.2.2,.row 9 1 (List.map strc ((l.take ζ.1).flatten))))]) (fun ζ=>ζ.1≤l.length) (fun ζ=>l.length - ζ.1) ?_ ?_
   ·skip
    exact .here (0,(k10+1),(k10+1)) (.of (.cons (by show SV.one (.ref [24,0] (k10+1))=SV.one (.ref [24,0] ((k10+1))); first | rfl | simp_all) (.cons Y (.cons Y (.cons (svI (show (0)=((0:Int)) by first | rfl | omega | exact wrap_le (by omega) (by omega) | (rw [wrap_le (by omega) (by omega)]; omega))) .nil)))) (.cons (rowE (show []=List.map strc ((l.take 0).flatten) by first | (simp; done) | exact congrArg _ (take_flatten _ _))) .nil)) (show 0≤l.length by omega)
   ·rintro ⟨i,q12,q13⟩ hI
    have hI:i≤l.length:=hI
    have hs9:=lens_take l i
    have hs8:=lens_le l (i+1)
    have hs7:=lens_le l i
    dsimp only
    refine .seq<|.rs fun k14=>.bi Y<|.z<|.seq ?_
    refine .cond (t:=decide ((i:Int) < (l.length:Int))) Y (fun c2=>?_) (fun c2=>?_)
    ·have c2:=of_decide_eq_true c2
     refine .skip<|.seq<|.block<|.seq<|.rs fun k15=>.g (fun _ τ=>⟨_,.indexAddr (.no Y) Y (i) t116 Y t33 Y Y Y (.d _ _) Y Y Y (map_get (by omega)) Y Y τ⟩)<|.ld t33 Y (.d _) Y<|.as Y<|.z ?_
     refine .rs fun k16=>.mv Y<|.mv Y<|.g (fun _ τ=>⟨_,.append (.no Y) Y (l3:=List.map strc ((l.take i).flatten++l.getD i default)) t33 Y z9 Y Y Y Y Y Y Y Y (.ref _ _ _ _ Y) (.ro _ _) Y (by simp only [List.length_map,flatten_lens,i9]; omega) (map_app _ _ _) Y Y τ⟩)<|.as Y<|.z<|.rs fun k17=>.bi Y<|.mv Y ?_
     refine .z ?_
     exact .here ((i+1),(k16+1+1),(k16+1+1)) (.of (.cons (by show SV.one (.ref [24,0] (k16+1+1))=SV.one (.ref [24,0] ((k16+1+1))); first | rfl | simp_all) (.cons Y (.cons Y (.cons (svI (show (IntKind.wrap .i64 ((i:Int)+1))=(((i+1):Int)) by first | rfl | omega | exact wrap_le (by omega) (by omega) | (rw [wrap_le (by omega) (by omega)]; omega))) .nil)))) (.cons (rowE (show List.map strc ((l.take i).flatten++l.getD i default)=List.map strc ((l.take (i+1)).flatten) by first | (simp; done) | exact congrArg _ (take_flatten _ _))) .nil)) ⟨(show (i+1)≤l.length by omega),(show l.length - (i+1) < l.length - i by omega)⟩
    ·have c2:=of_decide_eq_false c2
     refine .exit<|.seq<|.rs fun k18=>.mv Y<|.as Y<|.z<|.ret ?_
     have e19:((l.take i).flatten)=(l.flatten):=by (rw [List.take_of_length_le (by omega)])
     exact fin1 (.inr Y) [] [([24,0],(q12,q13,.row 9 1 (List.map strc (l.flatten))))] (.one Y .nil) (.cons (.ref (.head _)) .nil) Y Y (.cons (rowE (congrArg (List.map strc) e19)) .nil)
theorem c_names (d:Decl) (hb:d.vars.length≤1048576∧d.flags.length≤1048576∧d.arrays.length≤1048576):Trip Tryd.prog 74 [(true,3)] (Decl.c36 d) [(false,1)] [.sl true 9 1 (List.map strc (Decl.names d))] []:=by
 refine Trip.of Tryd.func74 (by decide) (c:=_) Y Y (Nat.le_of_ble_eq_true Y) Y (AftOk.nil _)<|.sla (t:=0) 0 Y Y fun hs1l=>.sla (t:=0) 1 Y Y fun hs2l=>.sla (t:=0) 2 Y Y fun hs3l=>.seq<|.rs fun k4=>.g (fun _ τ=>⟨_,.box (.no Y) Y Y Y Y Y τ⟩)<|.as Y<|.z ?_
 refine .seq<|.rs fun k5=>.fp t36 t33 Y<|.ld t33 Y (.ptr _ _ _ _ _ Y) Y<|.fp t36 t33 Y<|.ld t33 Y (.ptr _ _ _ _ _ Y) Y<|.g (fun _ τ=>⟨_,.buildSlice (.no Y) Y (els:=[[.sl false 9 1 (List.map strc (d.vars))],[.sl false 9 1 (List.map strc (d.flags))]]) t116 Y z33 Y Y Y Y Y Y Y Y (by simp [i33]) (.cons _ _ _ _ _ _ (.d _) (.cons _ _ _ _ _ _ (.d _) .nil)) Y Y Y τ⟩) ?_
 refine .g (fun _ τ=>⟨_,.call (.no Y) Y [[10]] [([10],(k5+1+1+1+1,k5+1+1+1+1,.row 33 1 ([[.sl false 9 1 (List.map strc (d.vars))],[.sl false 9 1 (List.map strc (d.flags))]])))] (c_Concat [d.vars,d.flags] (by (simp [lens]; omega))) Y Y Y Y Y (.cons (Reads.ref (Frz.of_erase (erase_slo true 33 1 slc33 slc33 ([d.vars,d.flags]) slc33_e)) (.head _) (.head _)).gives .nil) Y Y (fun _=>(ownCons (Owned.map _ _ _ _ strc_o) ownNil)) (.own [11,0] .nil) (.nil) Y Y Y (AllH.get (.r Y)) Y Y Y τ⟩)<|.as Y<|.z<|.seq<|.seq<|.rs fun k6=>.fp t36 t34 Y<|.ld t34 Y (.ptr _ _ _ _ _ Y) Y<|.g (fun _ τ=>⟨_,.len (.no Y) Y (z:=(d.arrays.length:Int)) t34 Y Y Y (.d _ _) (map_len _ _) Y τ⟩) ?_
 refine .mv Y<|.z<|.block ?_
 refine .loop (X:=Nat × Nat × Nat) (fun ζ=>.of [(3,.one (.ref [11,0] (ζ.2.1))),(13,.one (.d (.sl false 78 2 (List.map Arr.c (d.arrays))))),(14,.one (.d (.v (.int .i64 ((d.arrays.length:Int)))))),(15,.one (.d (.v (.int .i64 ((ζ.1:Int))))))] [([11,0],(ζ.2.1,ζ.2.2,.row 9 1 (List.map strc (d.vars++d.flags++(d.arrays.take ζ.1).map Arr.name))))]) (fun ζ=>ζ.1≤d.arrays.length) (fun ζ=>d.arrays.length - ζ.1) ?_ ?_
 ·skip
  exact .here (0,(k5+1+1+1+1+1),(k5+1+1+1+1+1)) (.of (.cons (by show SV.one (.ref [11,0] (k5+1+1+1+1+1))=SV.one (.ref [11,0] ((k5+1+1+1+1+1))); first | rfl | simp_all) (.cons Y (.cons Y (.cons (svI (show (0)=((0:Int)) by first | rfl | omega | exact wrap_le (by omega) (by omega) | (rw [wrap_le (by omega) (by omega)]; omega))) .nil)))) (.cons (rowE (show List.map strc ([d.vars,d.flags].flatten)=List.map strc (d.vars++d.flags++(d.arrays.take 0).map Arr.name) by first | (simp; done) | (rw [List.append_assoc (d.vars++d.flags),take_step (f:=Arr.name) (by omega)]))) .nil)) (show 0≤d.arrays.length by omega)
 ·rintro ⟨j,q7,q8⟩ hI
  have hI:j≤d.arrays.length:=hI
  dsimp only
  refine .seq<|.rs fun k9=>.bi Y<|.z<|.seq ?_
  refine .cond (t:=decide ((j:Int) < (d.arrays.length:Int))) Y (fun c0=>?_) (fun c0=>?_)
  ·have c0:=of_decide_eq_true c0
   refine .skip<|.seq<|.block<|.seq<|.rs fun k10=>.g (fun _ τ=>⟨_,.indexAddr (.no Y) Y (j) t34 Y t78 Y Y Y (.d _ _) Y Y Y (map_get (by omega)) Y Y τ⟩)<|.lda t78 Y (.d _) Y<|.g (fun _ τ=>⟨_,.alloc (.no Y) Y z78 Y Y Y τ⟩)<|.g (fun _ τ=>⟨_,.store (.no Y) Y t78 Y Y Y Y Y Y Y Y Y τ⟩) ?_
   refine .z<|.rs fun k11=>.mv Y<|.fp t78 t9 Y<|.ld t9 Y (.ptr _ _ _ _ _ Y) Y<|.g (fun _ τ=>⟨_,.buildSlice (.no Y) Y (els:=[[.v (.string ((d.arrays.getD j default).name))]]) t33 Y z9 Y Y Y Y Y Y Y Y (by simp [i9]) (.cons _ _ _ _ _ _ (.d _) .nil) Y Y Y τ⟩)<|.g (fun _ τ=>⟨_,.append (.no Y) Y (l3:=List.map strc (d.vars++d.flags++(d.arrays.take j).map Arr.name++[(d.arrays.getD j default).name])) t33 Y z9 Y Y Y Y Y Y Y Y (.ref _ _ _ _ Y) (.take _ _ _ _ _ Y) Y (by simp [i9]; omega) (map_snoc _ _ _) Y Y τ⟩)<|.as Y<|.z ?_
   refine .rs fun k12=>.bi Y<|.mv Y<|.z ?_
   exact .here ((j+1),(k11+1+1+1+1),(k11+1+1+1+1)) (.of (.cons (by show SV.one (.ref [11,0] (k11+1+1+1+1))=SV.one (.ref [11,0] ((k11+1+1+1+1))); first | rfl | simp_all) (.cons Y (.cons Y (.cons (svI (show (IntKind.wrap .i64 ((j:Int)+1))=(((j+1):Int)) by first | rfl | omega | exact wrap_le (by omega) (by omega) | (rw [wrap_le (by omega) (by omega)]; omega))) .nil)))) (.cons (rowE (show List.map strc (d.vars++d.flags++(d.arrays.take j).map Arr.name++[(d.arrays.getD j default).name])=List.map strc (d.vars++d.flags++(d.arrays.take (j+1)).map Arr.name) by first | (simp; done) | (rw [List.append_assoc (d.vars++d.flags),take_step (f:=Arr.name) (by omega)]))) .nil)) ⟨(show (j+1)≤d.arrays.length by omega),(show d.arrays.length - (j+1) < d.arrays.length - j by omega)⟩
  ·have c0:=of_decide_eq_false c0
   refine .exit<|.seq<|.rs fun k13=>.mv Y<|.as Y<|.z<|.ret ?_
   have e14:(d.vars++d.flags++(d.arrays.take j).map Arr.name)=(Decl.names d):=by (simp only [Decl.names]; rw [List.take_of_length_le (by omega)])
   exact fin1 (.inr Y) [] [([11,0],(q7,q8,.row 9 1 (List.map strc (Decl.names d))))] (.one Y .nil) (.cons (.ref (.head _)) .nil) Y Y (.cons (rowE (congrArg (List.map strc) e14)) .nil)
end Go.Proofs

namespace Go.Proofs
open Go Go.Proofs Go.Ev

def i101:TI:=⟨.fn,1,8,[.nilFunc]⟩
theorem t101:TyOk Tryd.prog 101 i101:=⟨⟨_,_,_,Tryd.underlying101⟩,by kernel_rfl⟩
theorem z101:ZOk Tryd.prog 101 i101:=⟨t101,rfl⟩
theorem c_IndexFuncA (l:List Arr) (F_p:FuncId) (first_p:List (Bool × List D)) (caps_p:List D) (p:Arr→Bool) (h_p:∀ (x0:Arr),FnTrip Tryd.prog F_p first_p caps_p [(true,2)] (Arr.c x0) [(false,1)] [.v (.bool (p x0))]):Trip Tryd.prog 114 [(false,1),(false,1)] ([.sl false 78 2 (List.map Arr.c (l))]++[.fn F_p first_p caps_p]) [(false,1)] [.v (.int .i64 (idx p l))] []:=by
 refine Trip.of Tryd.func114 (by decide) (c:=_) Y Y (Nat.le_of_ble_eq_true Y) Y (AftOk.nil _)<|.sl (t:=0) Y fun hs1l=>.seq<|.rs fun k2=>.as Y<|.z<|.seq<|.seq<|.rs fun k3=>?_
 refine .mv Y<|.g (fun _ τ=>⟨_,.len (.no Y) Y (z:=(l.length:Int)) t34 Y Y Y (.d _ _) (map_len _ _) Y τ⟩)<|.mv Y<|.z<|.block ?_
 refine .loop (X:=Nat) (fun ζ=>.of [(0,.one (.d (.sl false 78 2 (List.map Arr.c (l))))),(1,.one (.d (.fn F_p first_p caps_p))),(7,.one (.d (.v (.int .i64 ((l.length:Int)))))),(8,.one (.d (.v (.int .i64 ((ζ:Int))))))] []) (fun ζ=>ζ≤l.length∧allTo ζ (fun i=>!p (l.getD i default))=true) (fun ζ=>l.length - ζ) ?_ ?_
 ·skip
  exact .here 0 (.of (.cons Y (.cons Y (.cons Y (.cons (svI (show (0)=((0:Int)) by first | rfl | omega | exact wrap_le (by omega) (by omega) | (rw [wrap_le (by omega) (by omega)]; omega))) .nil)))) .nil) (show 0≤l.length∧allTo 0 (fun i=>!p (l.getD i default))=true by exact ⟨by omega,rfl⟩)
 ·rintro j hI
  have hI:j≤l.length∧allTo j (fun i=>!p (l.getD i default))=true:=hI
  refine .seq<|.rs fun k4=>.bi Y<|.z<|.seq ?_
  refine .cond (t:=decide ((j:Int) < (l.length:Int))) Y (fun c0=>?_) (fun c0=>?_)
  ·have c0:=of_decide_eq_true c0
   refine .skip<|.seq<|.block<|.seq<|.rs fun k5=>.mv Y<|.as Y<|.z<|.seq ?_
   refine .rs fun k6=>.mv Y<|.mv Y<|.mv Y<|.g (fun _ τ=>⟨_,.indexAddr (.no Y) Y (j) t34 Y t78 Y Y Y (.d _ _) Y Y Y (map_get (by omega)) Y Y τ⟩)<|.lda t78 Y (.d _) Y<|.g (fun _ τ=>⟨_,.callF (.no Y) Y (ds:=[.v (.string ((l.getD j default).name)),.v (.int .i64 ((l.getD j default).size))]) (h_p (l.getD j default)) Y Y Y Y (.own [16,0] .nil) Y Y Y Y Y Y τ⟩)<|.z ?_
   refine .cond (t:=p (l.getD j default)) Y (fun c1=>?_) (fun c1=>?_)
   ·have c1:=c1
    refine .seq<|.rs fun k7=>.mv Y<|.as Y<|.z<|.ret ?_
    exact fin0 (.inr Y) (.one (svI (show ((j:Int))=(idx p l) by exact (idx_found (j:=j) (by omega) hI.2 (by simpa using c1)).symm)) .nil) (.dd .nil) Y
   ·have c1:=c1
    refine .skip<|.rs fun k9=>.bi Y<|.mv Y<|.z ?_
    exact .here (j+1) (.of (.cons Y (.cons Y (.cons Y (.cons (svI (show (IntKind.wrap .i64 ((j:Int)+1))=(((j+1):Int)) by first | rfl | omega | exact wrap_le (by omega) (by omega) | (rw [wrap_le (by omega) (by omega)]; omega))) .nil)))) .nil) ⟨(show (j+1)≤l.length∧allTo (j+1) (fun i=>!p (l.getD i default))=true by exact ⟨by omega,allTo_step hI.2 (by simpa using c1)⟩),(show l.length - (j+1) < l.length - j by omega)⟩
  ·have c0:=of_decide_eq_false c0
   refine .exit<|.seq<|.rs fun k10=>.as Y<|.z<|.ret ?_
   exact fin0 (.inr Y) (.one (svI (show (-1)=(idx p l) by exact (idx_none (by omega) hI.2).symm)) .nil) (.dd .nil) Y
theorem c_ContainsFuncA (l:List Arr) (F_p:FuncId) (first_p:List (Bool × List D)) (caps_p:List D) (p:Arr→Bool) (h_p:∀ (x0:Arr),FnTrip Tryd.prog F_p first_p caps_p [(true,2)] (Arr.c x0) [(false,1)] [.v (.bool (p x0))]):Trip Tryd.prog 101 [(false,1),(false,1)] ([.sl false 78 2 (List.map Arr.c (l))]++[.fn F_p first_p caps_p]) [(false,1)] [.v (.bool (l.any p))] []:=by
 refine Trip.of Tryd.func101 (by decide) (c:=_) Y Y (Nat.le_of_ble_eq_true Y) Y (AftOk.nil _)<|.sl (t:=0) Y fun hs1l=>.seq<|.rs fun k2=>.as Y<|.z<|.seq<|.rs fun k3=>.mv Y ?_
 refine .mv Y<|.c0 (c_IndexFuncA l F_p first_p caps_p p h_p) Y (.dd (.dd .nil)) (.own [7,0] .nil) Y<|.bi Y<|.as Y<|.z<|.ret ?_
 exact fin0 (.inr Y) (.one (svB (show (decide ((idx p l)≥0))=(l.any p) by exact idx_any _ _)) .nil) (.dd .nil) Y
theorem c_areAll1A (x:Arr) (F_p:FuncId) (first_p:List (Bool × List D)) (caps_p:List D) (p:Arr→Bool) (h_p:∀ (x0:Arr),FnTrip Tryd.prog F_p first_p caps_p [(true,2)] (Arr.c x0) [(false,1)] [.v (.bool (p x0))]):Trip Tryd.prog 102 [(true,2),(false,1)] (Arr.c x++[.pt false [.fn F_p first_p caps_p]]) [(false,1)] [.v (.bool (!p x))] []:=by
 refine Trip.of Tryd.func102 (by decide) (c:=_) Y Y (Nat.le_of_ble_eq_true Y) Y (AftOk.nil _)<|.seq<|.rs fun k1=>.g (fun _ τ=>⟨_,.box (.no Y) Y Y Y Y Y τ⟩)<|.as Y<|.z<|.seq<|.rs fun k2=>.ld t101 Y (.d _) Y ?_
 refine .lda t78 Y (.ptr _ _ _ _ _ Y) Y<|.g (fun _ τ=>⟨_,.callF (.no Y) Y (ds:=[.v (.string (x.name)),.v (.int .i64 (x.size))]) (h_p x) Y Y Y Y (.own [6,0] .nil) Y Y Y Y Y Y τ⟩)<|.un Y<|.as Y<|.z<|.ret ?_
 exact fin0 (.inr Y) (.one (svB (show (!(p x))=(!p x) by rfl)) .nil) (.dd .nil) Y
theorem c_areAllA (l:List Arr) (F_p:FuncId) (first_p:List (Bool × List D)) (caps_p:List D) (p:Arr→Bool) (h_p:∀ (x0:Arr),FnTrip Tryd.prog F_p first_p caps_p [(true,2)] (Arr.c x0) [(false,1)] [.v (.bool (p x0))]):Trip Tryd.prog 78 [(false,1),(false,1)] ([.sl false 78 2 (List.map Arr.c (l))]++[.fn F_p first_p caps_p]) [(false,1)] [.v (.bool (l.all p))] []:=by
 refine Trip.of Tryd.func78 (by decide) (c:=_) Y Y (Nat.le_of_ble_eq_true Y) Y (AftOk.nil _)<|.sl (t:=0) Y fun hs1l=>.seq<|.rs fun k2=>.g (fun _ τ=>⟨_,.box (.no Y) Y Y Y Y Y τ⟩)<|.as Y<|.z<|.seq<|.rs fun k3=>?_
 refine .mv Y<|.g (fun _ τ=>⟨_,.makeFunc (.no Y) Y Y Y Y Y τ⟩)<|.g (fun _ τ=>⟨_,.call (.no Y) Y [[3]] [([3],(k2,k2,.box [.d (.fn F_p first_p caps_p)]))] (c_ContainsFuncA l 102 [] [.pt false [.fn F_p first_p caps_p]] (fun x0=>!p x0) (fun x0=>c_areAll1A x0 F_p first_p caps_p p h_p)) Y Y Y Y Y (.dd (.cons (Reads.clo0 (.cons (Reads.ptr0 (.head _) (.head _) (.cons (Reads.d _) .nil)) .nil)).gives .nil)) Y Y (fun _=>(ownCons (Owned.v _) ownNil)) (.own [7,0] .nil) (.nil) Y Y Y (AllH.get (.r Y)) Y Y Y τ⟩)<|.un Y<|.as Y<|.z<|.ret ?_
 exact fin0 (.inr Y) (.one (svB (show (!(l.any (fun x0=>!p x0)))=(l.all p) by exact not_any _ _)) .nil) (.dd .nil) Y
theorem c_isLetter (c:Int):Trip Tryd.prog 98 [(false,1)] ([.v (.int .u8 (c))]) [(false,1)] [.v (.bool (decide (c≥97)&&decide (c≤122)))] []:=by
 refine Trip.of Tryd.func98 (by decide) (c:=_) Y Y (Nat.le_of_ble_eq_true Y) Y (AftOk.nil _)<|.seq<|.rs fun k1=>.as Y<|.z<|.seq ?_
 refine .reg (X:=Unit) (fun ζ=>.of [(2,.one (.d (.v (.bool ((decide (c≥97)&&decide (c≤122)))))))] []) [⟨[0],some 3,[],[]⟩,⟨[3],some 4,[],[]⟩,⟨[4],some 5,[],[]⟩,⟨[5,0],some 6,[],[]⟩,⟨[5,6],some 7,[],[]⟩,⟨[5,7],some 8,[],[]⟩,⟨[8],some 2,[],[]⟩] (fun k2=>?_) ?_
 ·skip
  refine .move (.no Y) Y Y Y Y<|.bin (.no Y) Y Y Y Y Y Y<|.moveB (.no Y) Y Y Y Y fun b3 g1_2=>?_
  cases b3
  ·skip
   refine .off Y Y Y Y Y Y Y<|.off Y Y Y Y Y Y Y<|.pick (.no Y) Y Y Y Y Y<|.assign (.no Y) Y Y Y Y ?_
   exact .fin () (.of (.cons (svB (show (false)=((decide (c≥97)&&decide (c≤122))) by first | (simp only [g1_2,Bool.true_or,Bool.false_or,Bool.true_and,Bool.false_and,Bool.not_true,Bool.not_false]; done) | (simp [g1_2]; done) | (exfalso; simp_all; done))) .nil) .nil)
  ·skip
   refine .move (.on Y Y Y Y Y) Y Y Y Y<|.bin (.on Y Y Y Y Y) Y Y Y Y Y Y<|.pick (.no Y) Y Y Y Y Y<|.assign (.no Y) Y Y Y Y ?_
   exact .fin () (.of (.cons (svB (show (decide (c≤122))=((decide (c≥97)&&decide (c≤122))) by first | (simp only [g1_2,Bool.true_or,Bool.false_or,Bool.true_and,Bool.false_and,Bool.not_true,Bool.not_false]; done) | (simp [g1_2]; done) | (exfalso; simp_all; done))) .nil) .nil)
 intro _
 refine .ret ?_
 exact fin0 (.inr Y) (.one (svB (show ((decide (c≥97)&&decide (c≤122)))=(decide (c≥97)&&decide (c≤122)) by rfl)) .nil) (.dd .nil) Y
theorem c_within (n:Int) (lo:Int) (hi:Int):Trip Tryd.prog 26 [(false,1),(false,1),(false,1)] ([.v (.int .i64 (n))]++[.v (.int .i64 (lo))]++[.v (.int .i64 (hi))]) [(false,1)] [.v (.bool (inR n lo hi))] []:=by
 refine Trip.of Tryd.func26 (by decide) (c:=_) Y Y (Nat.le_of_ble_eq_true Y) Y (AftOk.nil _)<|.seq<|.rs fun k1=>.as Y<|.z<|.seq ?_
 refine .reg (X:=Unit) (fun ζ=>.of [(6,.one (.d (.v (.bool ((decide (lo≤n)&&decide (n≤hi)))))))] []) [⟨[1],some 7,[],[]⟩,⟨[0],some 8,[],[]⟩,⟨[7,8],some 9,[],[]⟩,⟨[9],some 10,[],[]⟩,⟨[10,0],some 11,[],[]⟩,⟨[10,2],some 12,[],[]⟩,⟨[10,11,12],some 13,[],[]⟩,⟨[10,13],some 14,[],[]⟩,⟨[14],some 6,[],[]⟩] (fun k2=>?_) ?_
 ·skip
  refine .move (.no Y) Y Y Y Y<|.move (.no Y) Y Y Y Y<|.bin (.no Y) Y Y Y Y Y Y<|.moveB (.no Y) Y Y Y Y fun b3 g1_3=>?_
  cases b3
  ·skip
   refine .off Y Y Y Y Y Y Y<|.off Y Y Y Y Y Y Y<|.off Y Y Y Y Y Y Y<|.pick (.no Y) Y Y Y Y Y<|.assign (.no Y) Y Y Y Y ?_
   exact .fin () (.of (.cons (svB (show (false)=((decide (lo≤n)&&decide (n≤hi))) by first | (simp only [g1_3,Bool.true_or,Bool.false_or,Bool.true_and,Bool.false_and,Bool.not_true,Bool.not_false]; done) | (simp [g1_3]; done) | (exfalso; simp_all; done))) .nil) .nil)
  ·skip
   refine .move (.on Y Y Y Y Y) Y Y Y Y<|.move (.on Y Y Y Y Y) Y Y Y Y<|.bin (.on Y Y Y Y Y) Y Y Y Y Y Y<|.pick (.no Y) Y Y Y Y Y<|.assign (.no Y) Y Y Y Y ?_
   exact .fin () (.of (.cons (svB (show (decide (n≤hi))=((decide (lo≤n)&&decide (n≤hi))) by first | (simp only [g1_3,Bool.true_or,Bool.false_or,Bool.true_and,Bool.false_and,Bool.not_true,Bool.not_false]; done) | (simp [g1_3]; done) | (exfalso; simp_all; done))) .nil) .nil)
 intro _
 refine .ret ?_
 exact fin0 (.inr Y) (.one (svB (show ((decide (lo≤n)&&decide (n≤hi)))=(inR n lo hi) by rfl)) .nil) (.dd .nil) Y
theorem c_IndexS (l:List ByteArray) (s:ByteArray):Trip Tryd.prog 100 [(false,1),(false,1)] ([.sl false 9 1 (List.map strc (l))]++[.v (.string (s))]) [(false,1)] [.v (.int .i64 (idx (fun x=>strEq s x) l))] []:=by
 refine Trip.of Tryd.func100 (by decide) (c:=_) Y Y (Nat.le_of_ble_eq_true Y) Y (AftOk.nil _)<|.sl (t:=0) Y fun hs1l=>.seq<|.rs fun k2=>.as Y<|.z<|.seq<|.seq<|.rs fun k3=>?_
 refine .mv Y<|.g (fun _ τ=>⟨_,.len (.no Y) Y (z:=(l.length:Int)) t33 Y Y Y (.d _ _) (map_len _ _) Y τ⟩)<|.mv Y<|.z<|.block ?_
 refine .loop (X:=Nat) (fun ζ=>.of [(0,.one (.d (.sl false 9 1 (List.map strc (l))))),(1,.one (.d (.v (.string (s))))),(7,.one (.d (.v (.int .i64 ((l.length:Int)))))),(8,.one (.d (.v (.int .i64 ((ζ:Int))))))] []) (fun ζ=>ζ≤l.length∧allTo ζ (fun i=>!strEq s (l.getD i default))=true) (fun ζ=>l.length - ζ) ?_ ?_
 ·skip
  exact .here 0 (.of (.cons Y (.cons Y (.cons Y (.cons (svI (show (0)=((0:Int)) by first | rfl | omega | exact wrap_le (by omega) (by omega) | (rw [wrap_le (by omega) (by omega)]; omega))) .nil)))) .nil) (show 0≤l.length∧allTo 0 (fun i=>!strEq s (l.getD i default))=true by exact ⟨by omega,rfl⟩)
 ·rintro j hI
  have hI:j≤l.length∧allTo j (fun i=>!strEq s (l.getD i default))=true:=hI
  refine .seq<|.rs fun k4=>.bi Y<|.z<|.seq ?_
  refine .cond (t:=decide ((j:Int) < (l.length:Int))) Y (fun c0=>?_) (fun c0=>?_)
  ·have c0:=of_decide_eq_true c0
   refine .skip<|.seq<|.block<|.seq<|.rs fun k5=>.mv Y<|.as Y<|.z<|.seq ?_
   refine .rs fun k6=>.mv Y<|.mv Y<|.mv Y<|.g (fun _ τ=>⟨_,.indexAddr (.no Y) Y (j) t33 Y t9 Y Y Y (.d _ _) Y Y Y (map_get (by omega)) Y Y τ⟩)<|.ld t9 Y (.d _) Y<|.bi Y<|.z ?_
   refine .cond (t:=s.toList == (l.getD j default).toList) Y (fun c1=>?_) (fun c1=>?_)
   ·have c1:=c1
    refine .seq<|.rs fun k7=>.mv Y<|.as Y<|.z<|.ret ?_
    exact fin0 (.inr Y) (.one (svI (show ((j:Int))=(idx (fun x=>strEq s x) l) by exact (idx_found (p:=fun x=>strEq s x) (by omega) hI.2 c1).symm)) .nil) (.dd .nil) Y
   ·have c1:=c1
    refine .skip<|.rs fun k9=>.bi Y<|.mv Y<|.z ?_
    exact .here (j+1) (.of (.cons Y (.cons Y (.cons Y (.cons (svI (show (IntKind.wrap .i64 ((j:Int)+1))=(((j+1):Int)) by first | rfl | omega | exact wrap_le (by omega) (by omega) | (rw [wrap_le (by omega) (by omega)]; omega))) .nil)))) .nil) ⟨(show (j+1)≤l.length∧allTo (j+1) (fun i=>!strEq s (l.getD i default))=true by exact ⟨by omega,allTo_step hI.2 (by rw [show strEq s (l.getD j default)=false from c1]; rfl)⟩),(show l.length - (j+1) < l.length - j by omega)⟩
  ·have c0:=of_decide_eq_false c0
   refine .exit<|.seq<|.rs fun k10=>.as Y<|.z<|.ret ?_
   exact fin0 (.inr Y) (.one (svI (show (-1)=(idx (fun x=>strEq s x) l) by exact (idx_none (p:=fun x=>strEq s x) (by omega) hI.2).symm)) .nil) (.dd .nil) Y
theorem c_ContainsS (l:List ByteArray) (s:ByteArray):Trip Tryd.prog 76 [(false,1),(false,1)] ([.sl false 9 1 (List.map strc (l))]++[.v (.string (s))]) [(false,1)] [.v (.bool (l.any fun x=>strEq s x))] []:=by
 refine Trip.of Tryd.func76 (by decide) (c:=_) Y Y (Nat.le_of_ble_eq_true Y) Y (AftOk.nil _)<|.sl (t:=0) Y fun hs1l=>.seq<|.rs fun k2=>.as Y<|.z<|.seq<|.rs fun k3=>.mv Y ?_
 refine .mv Y<|.c0 (c_IndexS l s) Y (.dd (.dd .nil)) (.own [7,0] .nil) Y<|.bi Y<|.as Y<|.z<|.ret ?_
 exact fin0 (.inr Y) (.one (svB (show (decide ((idx (fun x=>strEq s x) l)≥0))=(l.any fun x=>strEq s x) by exact idx_any _ _)) .nil) (.dd .nil) Y
theorem asciiTab {W:World} {Z:Nat→Prop} (h:Laid W Z):∀ c:Nat,c < 256→W.cell? ⟨0,c,none⟩=some (.int .u8 (if Lib.isSp (UInt8.ofNat c) then 1 else 0)):=fun c hc=>by
  obtain ⟨_,h2⟩:=h _ (List.mem_singleton.2 Y)
  obtain ⟨v,h3,h4⟩:=h2 c (.v (.int .u8 (if Lib.isSp (UInt8.ofNat c) then 1 else 0))) (by simp [hc])
  cases h4; exact h3
def words:ByteArray:=(⟨#[118,97,114,32,102,108,97,103,32,97,114,114,97,121,32,105,102,32,102,111,114,107,32,101,108,115,101,32,101,110,100,32,119,104,105,108,101,32,117,110,114,111,108,108,32,97,115,115,101,114,116,32,97,115,115,117,109,101,32,105,110,112,117,116,32,115,112,108,105,116,32,109,101,114,103,101,32,116,114,117,101,32,102,97,108,115,101]⟩:ByteArray)
theorem words_ascii:∀ (j:Nat) b,words.data.toList[j]?=some b→b.toNat < 128:=fun j b h=>by
  have h1:(words.data.toList.all fun b=>decide (b.toNat < 128))=true:=by kernel_rfl
  exact of_decide_eq_true (List.all_eq_true.1 h1 b (List.mem_of_getElem? h))
theorem words_fields:Lib.fields words.data.toList=keys.map fun k=>k.data.toList:=by kernel_rfl
theorem c_Fields:Trip Tryd.prog 113 [(false,1)] ([.v (.string (⟨#[118,97,114,32,102,108,97,103,32,97,114,114,97,121,32,105,102,32,102,111,114,107,32,101,108,115,101,32,101,110,100,32,119,104,105,108,101,32,117,110,114,111,108,108,32,97,115,115,101,114,116,32,97,115,115,117,109,101,32,105,110,112,117,116,32,115,112,108,105,116,32,109,101,114,103,101,32,116,114,117,101,32,102,97,108,115,101]⟩:ByteArray))]) [(false,1)] [.sl true 9 1 (List.map strc (keys))] []:=by
  have h:=Trip.row1 (P:=Tryd.prog) (f:=113) (x:=.string words) (cs:=keys.map .string) (e:=9) ⟨_,Tryd.func113,by decide,by decide⟩ rfl (by intro v hv; obtain ⟨s,_,rfl⟩:=List.mem_map.1 hv; rfl) (by decide) fun W Z hL _ =>
    (Any.strings_Fields_core Tryd.lays157 (by kernel_rfl) words W (by decide) words_ascii (asciiTab hL)).mono fun e w' ⟨h1,h2⟩=>by
      rw [words_fields] at h1 h2
      exact ⟨h1,h2⟩
  exact h
theorem c_isWord (s:ByteArray):Trip Tryd.prog 99 [(false,1)] ([.v (.string (s))]) [(false,1)] [.v (.bool (isKey s))] []:=by
 refine Trip.of Tryd.func99 (by decide) (c:=_) Y Y (Nat.le_of_ble_eq_true Y) Y (AftOk.nil _)<|.seq<|.rs fun k1=>.as Y<|.z<|.seq<|.rs fun k2=>.c0 (c_Fields ) Y (.dd .nil) (.frz [3,0] (Frz.of_erase (erase_slo _ _ _ _ _ _ strc_e)) .nil) Y<|.mv Y ?_
 refine .c0 (c_ContainsS keys s) Y (.dd (.dd .nil)) (.own [5,0] .nil) Y<|.as Y<|.z<|.ret ?_
 exact fin0 (.inr Y) (.one (svB (show (keys.any fun x=>strEq s x)=(isKey s) by exact isKey_eq s)) .nil) (.dd .nil) Y
theorem c_isName (s:ByteArray) (hs:s.size≤9223372036854775807):Trip Tryd.prog 75 [(false,1)] ([.v (.string (s))]) [(false,1)] [.v (.bool (nmOk s))] []:=by
 refine Trip.of Tryd.func75 (by decide) (c:=_) Y Y (Nat.le_of_ble_eq_true Y) Y (AftOk.nil _)<|.seq<|.rs fun k1=>.as Y<|.z<|.seq<|.seq<|.rs fun k2=>.mv Y ?_
 refine .g (fun _ τ=>⟨_,.lenStr (.no Y) Y t9 Y Y Y Y Y τ⟩)<|.mv Y<|.z<|.block ?_
 refine .loop (X:=Nat) (fun ζ=>.of [(0,.one (.d (.v (.string (s))))),(5,.one (.d (.v (.int .i64 ((s.size:Int)))))),(6,.one (.d (.v (.int .i64 ((ζ:Int))))))] []) (fun ζ=>ζ≤s.size∧allTo ζ (fun i=>decide (97≤byteAt s i∧byteAt s i≤122))=true) (fun ζ=>s.size - ζ) ?_ ?_
 ·skip
  exact .here 0 (.of (.cons Y (.cons Y (.cons (svI (show (0)=((0:Int)) by first | rfl | omega | exact wrap_le (by omega) (by omega) | (rw [wrap_le (by omega) (by omega)]; omega))) .nil))) .nil) (show 0≤s.size∧allTo 0 (fun i=>decide (97≤byteAt s i∧byteAt s i≤122))=true by exact ⟨by omega,rfl⟩)
 ·rintro j hI
  have hI:j≤s.size∧allTo j (fun i=>decide (97≤byteAt s i∧byteAt s i≤122))=true:=hI
  refine .seq<|.rs fun k3=>.bi Y<|.z<|.seq ?_
  refine .cond (t:=decide ((j:Int) < (s.size:Int))) Y (fun c0=>?_) (fun c0=>?_)
  ·have c0:=of_decide_eq_true c0
   refine .skip<|.seq<|.block<|.seq<|.rs fun k4=>.mv Y<|.as Y<|.z<|.seq ?_
   refine .rs fun k5=>.mv Y<|.mv Y<|.g (fun _ τ=>⟨_,.indexStr (.no Y) Y (z:=byteAt s j) (j) t9 Y Y Y Y Y (b8_get (by omega)) Y Y τ⟩)<|.c0 (c_isLetter (byteAt s j)) Y (.dd .nil) (.own [12,0] .nil) Y<|.un Y<|.z ?_
   refine .cond (t:=!(decide ((byteAt s j)≥97)&&decide ((byteAt s j)≤122))) Y (fun c1=>?_) (fun c1=>?_)
   ·have c1:=(nT (aF dF dF)) c1
    refine .seq<|.rs fun k6=>.as Y<|.z<|.ret ?_
    exact fin0 (.inr Y) (.one (svB (show (false)=(nmOk s) by (simp only [nmOk,letters]; rw [allTo_fail (j:=j) (by omega) (by simp only [decide_eq_false_iff_not]; omega)]; rfl))) .nil) (.dd .nil) Y
   ·have c1:=(nF (aT dT dT)) c1
    refine .skip<|.rs fun k8=>.bi Y<|.mv Y<|.z ?_
    exact .here (j+1) (.of (.cons Y (.cons Y (.cons (svI (show (IntKind.wrap .i64 ((j:Int)+1))=(((j+1):Int)) by first | rfl | omega | exact wrap_le (by omega) (by omega) | (rw [wrap_le (by omega) (by omega)]; omega))) .nil))) .nil) ⟨(show (j+1)≤s.size∧allTo (j+1) (fun i=>decide (97≤byteAt s i∧byteAt s i≤122))=true by exact ⟨by omega,allTo_step hI.2 (by simp only [decide_eq_true_eq]; omega)⟩),(show s.size - (j+1) < s.size - j by omega)⟩
  ·have c0:=of_decide_eq_false c0
   refine .exit<|.seq ?_
   refine .reg (X:=Unit) (fun ζ=>.of [(2,.one (.d (.v (.bool ((inR (s.size:Int) 1 8&&!(isKey s)))))))] []) [⟨[0],some 15,[],[]⟩,⟨[15],some 16,[],[]⟩,⟨[16],some 17,[],[]⟩,⟨[17],some 18,[],[]⟩,⟨[18,0],some 19,[],[]⟩,⟨[18,19],some 20,[],[]⟩,⟨[18,20],some 21,[],[]⟩,⟨[18,21],some 22,[],[]⟩,⟨[22],some 2,[],[]⟩] (fun k9=>?_) ?_
   ·skip
    refine .move (.no Y) Y Y Y Y<|.lenStr (.no Y) Y t9 Y Y Y Y Y<|.call (.no Y) Y [] [] (c_within (s.size:Int) 1 8) Y Y Y Y Y (.dd (.dd (.dd .nil))) Y Y (fun h=>absurd Y h) (.own [17,0] .nil) (.nil) Y Y Y (by simp) Y Y Y<|.moveB (.no Y) Y Y Y Y fun b10 g7_3=>?_
    cases b10
    ·skip
     refine .off Y Y Y Y Y Y Y<|.off Y Y Y Y Y Y Y<|.off Y Y Y Y Y Y Y<|.pick (.no Y) Y Y Y Y Y<|.assign (.no Y) Y Y Y Y ?_
     exact .fin () (.of (.cons (svB (show (false)=((inR (s.size:Int) 1 8&&!(isKey s))) by first | (simp only [g7_3,Bool.true_or,Bool.false_or,Bool.true_and,Bool.false_and,Bool.not_true,Bool.not_false]; done) | (simp [g7_3]; done) | (exfalso; simp_all; done))) .nil) .nil)
    ·skip
     refine .move (.on Y Y Y Y Y) Y Y Y Y<|.call (.on Y Y Y Y Y) Y [] [] (c_isWord s) Y Y Y Y Y (.dd .nil) Y Y (fun h=>absurd Y h) (.own [20,0] .nil) (.nil) Y Y Y (by simp) Y Y Y<|.un (.on Y Y Y Y Y) Y Y Y Y Y<|.pick (.no Y) Y Y Y Y Y<|.assign (.no Y) Y Y Y Y ?_
     exact .fin () (.of (.cons (svB (show (!(isKey s))=((inR (s.size:Int) 1 8&&!(isKey s))) by first | (simp only [g7_3,Bool.true_or,Bool.false_or,Bool.true_and,Bool.false_and,Bool.not_true,Bool.not_false]; done) | (simp [g7_3]; done) | (exfalso; simp_all; done))) .nil) .nil)
   intro _
   refine .ret ?_
   exact fin0 (.inr Y) (.one (svB (show ((inR (s.size:Int) 1 8&&!(isKey s)))=(nmOk s) by (have hj:j=s.size:=(by omega); subst hj; simp only [nmOk,letters]; rw [hI.2]; rfl))) .nil) (.dd .nil) Y
theorem c_isRight1 (a:Arr):Trip Tryd.prog 77 [(true,2)] (Arr.c a) [(false,1)] [.v (.bool (inR a.size 1 16))] []:=by
 refine Trip.of Tryd.func77 (by decide) (c:=_) Y Y (Nat.le_of_ble_eq_true Y) Y (AftOk.nil _)<|.seq<|.rs fun k1=>.g (fun _ τ=>⟨_,.box (.no Y) Y Y Y Y Y τ⟩)<|.as Y<|.z<|.seq<|.rs fun k2=>.fp t78 t2 Y ?_
 refine .ld t2 Y (.ptr _ _ _ _ _ Y) Y<|.c0 (c_within a.size 1 16) Y (.dd (.dd (.dd .nil))) (.own [5,0] .nil) Y<|.as Y<|.z<|.ret ?_
 exact fin0 (.inr Y) (.one Y .nil) (.dd .nil) Y
theorem c_isRight (d:Decl) (hs:∀ x∈Decl.names d,x.size≤9223372036854775807) (hb:d.vars.length≤1048576∧d.flags.length≤1048576∧d.arrays.length≤1048576):Trip Tryd.prog 50 [(true,3)] (Decl.c36 d) [(false,1)] [.v (.bool (Decl.ok d))] []:=by
 refine Trip.of Tryd.func50 (by decide) (c:=_) Y Y (Nat.le_of_ble_eq_true Y) Y (AftOk.nil _)<|.sla (t:=0) 0 Y Y fun hs1l=>.sla (t:=0) 1 Y Y fun hs2l=>.sla (t:=0) 2 Y Y fun hs3l=>.seq<|.rs fun k4=>.g (fun _ τ=>⟨_,.box (.no Y) Y Y Y Y Y τ⟩)<|.as Y<|.z ?_
 refine .seq<|.rs fun k5=>.lda t36 Y (.ptr _ _ _ _ _ Y) Y<|.c0 (c_names d (by first | assumption | omega | exact hs _ (getD_mem (by omega)))) Y (.dd (.dd (.dd .nil))) (.frz [8,0] (Frz.of_erase (erase_slo _ _ _ _ _ _ strc_e)) .nil) Y<|.as Y<|.z<|.seq<|.seq<|.rs fun k6=>?_
 refine .mv Y<|.g (fun _ τ=>⟨_,.len (.no Y) Y (z:=((Decl.names d).length:Int)) t33 Y Y Y (.d _ _) (map_len _ _) Y τ⟩)<|.mv Y<|.z<|.block ?_
 refine .loop (X:=Nat) (fun ζ=>.of [(1,.one (.ptr [1] (k4) 0)),(3,.one (.d (.sl false 9 1 (List.map strc (Decl.names d))))),(9,.one (.d (.sl false 9 1 (List.map strc (Decl.names d))))),(10,.one (.d (.v (.int .i64 (((Decl.names d).length:Int)))))),(11,.one (.d (.v (.int .i64 ((ζ:Int))))))] [([1],(k4,k4,.box [.d (.sl false 9 1 (List.map strc (d.vars))),.d (.sl false 9 1 (List.map strc (d.flags))),.d (.sl false 78 2 (List.map Arr.c (d.arrays)))]))]) (fun ζ=>ζ≤(Decl.names d).length∧allTo ζ (nameOk (Decl.names d))=true) (fun ζ=>(Decl.names d).length - ζ) ?_ ?_
 ·skip
  exact .here 0 (.of (.cons Y (.cons Y (.cons Y (.cons Y (.cons (svI (show (0)=((0:Int)) by first | rfl | omega | exact wrap_le (by omega) (by omega) | (rw [wrap_le (by omega) (by omega)]; omega))) .nil))))) (.r Y)) (show 0≤(Decl.names d).length∧allTo 0 (nameOk (Decl.names d))=true by exact ⟨by omega,rfl⟩)
 ·rintro j hI
  have hI:j≤(Decl.names d).length∧allTo j (nameOk (Decl.names d))=true:=hI
  have hn9:(Decl.names d).length≤3145728:=by simp [Decl.names]; omega
  refine .seq<|.rs fun k7=>.bi Y<|.z<|.seq ?_
  refine .cond (t:=decide ((j:Int) < ((Decl.names d).length:Int))) Y (fun c0=>?_) (fun c0=>?_)
  ·have c0:=of_decide_eq_true c0
   refine .skip<|.seq<|.block<|.seq<|.rs fun k8=>.mv Y<|.g (fun _ τ=>⟨_,.indexAddr (.no Y) Y (j) t33 Y t9 Y Y Y (.d _ _) Y Y Y (map_get (by omega)) Y Y τ⟩)<|.ld t9 Y (.d _) Y<|.as Y ?_
   refine .as Y<|.z<|.seq ?_
   refine .reg (X:=Unit) (fun ζ=>.of [(1,.one (.ptr [1] (k4) 0)),(3,.one (.d (.sl false 9 1 (List.map strc (Decl.names d))))),(9,.one (.d (.sl false 9 1 (List.map strc (Decl.names d))))),(10,.one (.d (.v (.int .i64 (((Decl.names d).length:Int)))))),(11,.one (.d (.v (.int .i64 ((j:Int)))))),(25,.one (.d (.v (.bool ((!(nmOk ((Decl.names d).getD (j) default))||((Decl.names d).take j).any fun x=>strEq ((Decl.names d).getD (j) default) x))))))] [([1],(k4,k4,.box [.d (.sl false 9 1 (List.map strc (d.vars))),.d (.sl false 9 1 (List.map strc (d.flags))),.d (.sl false 78 2 (List.map Arr.c (d.arrays)))]))]) [⟨[5],some 16,[],[]⟩,⟨[16],some 17,[],[]⟩,⟨[17],some 18,[],[]⟩,⟨[18],some 19,[],[]⟩,⟨[19,3],some 20,[],[]⟩,⟨[19,4],some 21,[],[]⟩,⟨[19,20,21],some 22,[],[]⟩,⟨[19,5],some 23,[],[]⟩,⟨[19,22,23],some 24,[],[]⟩,⟨[19,24],some 25,[],[]⟩] (fun k9=>?_) ?_
   ·skip
    refine .move (.no Y) Y Y Y Y<|.call (.no Y) Y [] [] (c_isName ((Decl.names d).getD (j) default) (by first | assumption | omega | exact hs _ (getD_mem (by omega)))) Y Y Y Y Y (.dd .nil) Y Y (fun h=>absurd Y h) (.own [17,0] .nil) (.nil) Y Y Y (by simp) Y Y Y<|.un (.no Y) Y Y Y Y Y<|.moveB (.no Y) Y Y Y Y fun b10 g5_3=>?_
    cases b10
    ·skip
     refine .move (.on Y Y Y Y Y) Y Y Y Y<|.move (.on Y Y Y Y Y) Y Y Y Y<|.slice (.on Y Y Y Y Y) Y (lv:=0) (hv:=j) (m:=0) t33 Y t9 Y Y (.d _ _) Y (by intro _ _ h; cases h) (by exact rfl) (by exact ⟨_,rfl⟩) (Nat.zero_le _) (le_map (by omega)) (cut_d0 _ _ _ _ _ _ _ _ _) Y<|.move (.on Y Y Y Y Y) Y Y Y Y<|.call (.on Y Y Y Y Y) Y [] [] (c_ContainsS ((Decl.names d).take j) ((Decl.names d).getD (j) default)) Y Y Y Y Y (.dd (.dd .nil)) Y Y (fun h=>absurd Y h) (.own [24,0] .nil) (.nil) Y Y Y (by simp) Y Y Y<|.pick (.no Y) Y Y Y Y Y ?_
     exact .fin () (.of (.cons Y (.cons Y (.cons Y (.cons Y (.cons Y (.cons (svB (show (((Decl.names d).take j).any fun x=>strEq ((Decl.names d).getD (j) default) x)=((!(nmOk ((Decl.names d).getD (j) default))||((Decl.names d).take j).any fun x=>strEq ((Decl.names d).getD (j) default) x)) by first | (simp only [g5_3,Bool.true_or,Bool.false_or,Bool.true_and,Bool.false_and,Bool.not_true,Bool.not_false]; done) | (simp [g5_3]; done) | (exfalso; simp_all; done))) .nil)))))) (.r Y))
    ·skip
     refine .off Y Y Y Y Y Y Y<|.off Y Y Y Y Y Y Y<|.off Y Y Y Y Y Y Y<|.off Y Y Y Y Y Y Y<|.off Y Y Y Y Y Y Y<|.pick (.no Y) Y Y Y Y Y ?_
     exact .fin () (.of (.cons Y (.cons Y (.cons Y (.cons Y (.cons Y (.cons (svB (show (true)=((!(nmOk ((Decl.names d).getD (j) default))||((Decl.names d).take j).any fun x=>strEq ((Decl.names d).getD (j) default) x)) by first | (simp only [g5_3,Bool.true_or,Bool.false_or,Bool.true_and,Bool.false_and,Bool.not_true,Bool.not_false]; done) | (simp [g5_3]; done) | (exfalso; simp_all; done))) .nil)))))) (.r Y))
   intro _
   refine .cond (t:=(!(nmOk ((Decl.names d).getD (j) default))||((Decl.names d).take j).any fun x=>strEq ((Decl.names d).getD (j) default) x)) Y (fun c1=>?_) (fun c1=>?_)
   ·have c1:=(oT (nT id) id) c1
    refine .seq<|.rs fun k11=>.as Y<|.z<|.ret ?_
    exact fin0 (.inr Y) (.one (svB (show (false)=(Decl.ok d) by exact (Decl.ok_name2 (j:=j) (by omega) c1).symm)) .nil) (.dd .nil) Y
   ·have c1:=(oF (nF id) id) c1
    refine .skip<|.rs fun k13=>.bi Y<|.mv Y<|.z ?_
    exact .here (j+1) (.of (.cons Y (.cons Y (.cons Y (.cons Y (.cons (svI (show (IntKind.wrap .i64 ((j:Int)+1))=(((j+1):Int)) by first | rfl | omega | exact wrap_le (by omega) (by omega) | (rw [wrap_le (by omega) (by omega)]; omega))) .nil))))) (.r Y)) ⟨(show (j+1)≤(Decl.names d).length∧allTo (j+1) (nameOk (Decl.names d))=true by exact ⟨by omega,allTo_step hI.2 (nameOk_of2 c1)⟩),(show (Decl.names d).length - (j+1) < (Decl.names d).length - j by omega)⟩
  ·have c0:=of_decide_eq_false c0
   refine .exit<|.seq<|.rs fun k14=>.as Y<|.z<|.seq ?_
   refine .reg (X:=Unit) (fun ζ=>.of [(2,.one (.d (.v (.bool ((((decide ((d.vars.length:Int)≤5)&&decide ((d.flags.length:Int)≤3))&&decide ((d.arrays.length:Int)≤2))&&d.arrays.all (fun x0=>inR x0.size 1 16)))))))] []) [⟨[1],some 27,[],[]⟩,⟨[27],some 28,[[1]],[]⟩,⟨[28],some 29,[],[]⟩,⟨[29],some 30,[],[]⟩,⟨[30],some 31,[],[]⟩,⟨[31,1],some 32,[],[]⟩,⟨[31,32],some 33,[[1]],[]⟩,⟨[31,33],some 34,[],[]⟩,⟨[31,34],some 35,[],[]⟩,⟨[31,35],some 36,[],[]⟩,⟨[36],some 37,[],[]⟩,⟨[37,1],some 38,[],[]⟩,⟨[37,38],some 39,[[1]],[]⟩,⟨[37,39],some 40,[],[]⟩,⟨[37,40],some 41,[],[]⟩,⟨[37,41],some 42,[],[]⟩,⟨[42],some 43,[],[]⟩,⟨[43,1],some 44,[],[]⟩,⟨[43,44],some 45,[[1]],[]⟩,⟨[43,6],some 46,[],[]⟩,⟨[43,45,46],some 47,[],[]⟩,⟨[43,47],some 48,[],[]⟩,⟨[48],some 2,[],[]⟩] (fun k15=>?_) ?_
   ·skip
    refine .fieldAddrP (.no Y) Y t36 Y Y t33 Y Y Y Y<|.load (.no Y) Y t33 Y Y (.ptr _ _ _ _ _ Y) Y Y Y Y<|.len (.no Y) Y (z:=(d.vars.length:Int)) t33 Y Y Y (.d _ _) (map_len _ _) Y<|.bin (.no Y) Y Y Y Y Y Y<|.moveB (.no Y) Y Y Y Y fun b16 g9_4=>?_
    cases b16
    ·skip
     refine .off Y Y Y Y Y Y Y<|.off Y Y Y Y Y Y Y<|.off Y Y Y Y Y Y Y<|.off Y Y Y Y Y Y Y<|.pick (.no Y) Y Y Y Y Y<|.move (.no Y) Y Y Y Y<|.off Y Y Y Y Y Y Y<|.off Y Y Y Y Y Y Y<|.off Y Y Y Y Y Y Y ?_
     refine .off Y Y Y Y Y Y Y<|.pick (.no Y) Y Y Y Y Y<|.move (.no Y) Y Y Y Y<|.off Y Y Y Y Y Y Y<|.off Y Y Y Y Y Y Y<|.off Y Y Y Y Y Y Y<|.off Y Y Y Y Y Y Y<|.pick (.no Y) Y Y Y Y Y<|.assign (.no Y) Y Y Y Y ?_
     exact .fin () (.of (.cons (svB (show (false)=((((decide ((d.vars.length:Int)≤5)&&decide ((d.flags.length:Int)≤3))&&decide ((d.arrays.length:Int)≤2))&&d.arrays.all (fun x0=>inR x0.size 1 16))) by first | (simp only [g9_4,Bool.true_or,Bool.false_or,Bool.true_and,Bool.false_and,Bool.not_true,Bool.not_false]; done) | (simp [g9_4]; done) | (exfalso; simp_all; done))) .nil) .nil)
    ·skip
     refine .fieldAddrP (.on Y Y Y Y Y) Y t36 Y Y t33 Y Y Y Y<|.load (.on Y Y Y Y Y) Y t33 Y Y (.ptr _ _ _ _ _ Y) Y Y Y Y<|.len (.on Y Y Y Y Y) Y (z:=(d.flags.length:Int)) t33 Y Y Y (.d _ _) (map_len _ _) Y<|.bin (.on Y Y Y Y Y) Y Y Y Y Y Y<|.pick (.no Y) Y Y Y Y Y<|.moveB (.no Y) Y Y Y Y fun b17 g9_10=>?_
     cases b17
     ·skip
      refine .off Y Y Y Y Y Y Y<|.off Y Y Y Y Y Y Y<|.off Y Y Y Y Y Y Y<|.off Y Y Y Y Y Y Y<|.pick (.no Y) Y Y Y Y Y<|.move (.no Y) Y Y Y Y<|.off Y Y Y Y Y Y Y<|.off Y Y Y Y Y Y Y<|.off Y Y Y Y Y Y Y ?_
      refine .off Y Y Y Y Y Y Y<|.pick (.no Y) Y Y Y Y Y<|.assign (.no Y) Y Y Y Y ?_
      exact .fin () (.of (.cons (svB (show (false)=((((decide ((d.vars.length:Int)≤5)&&decide ((d.flags.length:Int)≤3))&&decide ((d.arrays.length:Int)≤2))&&d.arrays.all (fun x0=>inR x0.size 1 16))) by first | (simp only [g9_4,g9_10,Bool.true_or,Bool.false_or,Bool.true_and,Bool.false_and,Bool.not_true,Bool.not_false]; done) | (simp [g9_4,g9_10]; done) | (exfalso; simp_all; done))) .nil) .nil)
     ·skip
      refine .fieldAddrP (.on Y Y Y Y Y) Y t36 Y Y t34 Y Y Y Y<|.load (.on Y Y Y Y Y) Y t34 Y Y (.ptr _ _ _ _ _ Y) Y Y Y Y<|.len (.on Y Y Y Y Y) Y (z:=(d.arrays.length:Int)) t34 Y Y Y (.d _ _) (map_len _ _) Y<|.bin (.on Y Y Y Y Y) Y Y Y Y Y Y<|.pick (.no Y) Y Y Y Y Y<|.moveB (.no Y) Y Y Y Y fun b18 g9_16=>?_
      cases b18
      ·skip
       refine .off Y Y Y Y Y Y Y<|.off Y Y Y Y Y Y Y<|.off Y Y Y Y Y Y Y<|.off Y Y Y Y Y Y Y<|.pick (.no Y) Y Y Y Y Y<|.assign (.no Y) Y Y Y Y ?_
       exact .fin () (.of (.cons (svB (show (false)=((((decide ((d.vars.length:Int)≤5)&&decide ((d.flags.length:Int)≤3))&&decide ((d.arrays.length:Int)≤2))&&d.arrays.all (fun x0=>inR x0.size 1 16))) by first | (simp only [g9_4,g9_10,g9_16,Bool.true_or,Bool.false_or,Bool.true_and,Bool.false_and,Bool.not_true,Bool.not_false]; done) | (simp [g9_4,g9_10,g9_16]; done) | (exfalso; simp_all; done))) .nil) .nil)
      ·skip
       refine .fieldAddrP (.on Y Y Y Y Y) Y t36 Y Y t34 Y Y Y Y<|.load (.on Y Y Y Y Y) Y t34 Y Y (.ptr _ _ _ _ _ Y) Y Y Y Y<|.move (.on Y Y Y Y Y) Y Y Y Y<|.call (.on Y Y Y Y Y) Y [] [] (c_areAllA d.arrays 77 [] [] (fun x0=>inR x0.size 1 16) (fun x0=>c_isRight1 x0)) Y Y Y Y Y (.dd (.dd .nil)) Y Y (fun h=>absurd Y h) (.own [47,0] .nil) (.nil) Y Y Y (by simp) Y Y Y<|.pick (.no Y) Y Y Y Y Y<|.assign (.no Y) Y Y Y Y ?_
       exact .fin () (.of (.cons (svB (show (d.arrays.all (fun x0=>inR x0.size 1 16))=((((decide ((d.vars.length:Int)≤5)&&decide ((d.flags.length:Int)≤3))&&decide ((d.arrays.length:Int)≤2))&&d.arrays.all (fun x0=>inR x0.size 1 16))) by first | (simp only [g9_4,g9_10,g9_16,Bool.true_or,Bool.false_or,Bool.true_and,Bool.false_and,Bool.not_true,Bool.not_false]; done) | (simp [g9_4,g9_10,g9_16]; done) | (exfalso; simp_all; done))) .nil) .nil)
   intro _
   refine .ret ?_
   exact fin0 (.inr Y) (.one (svB (show ((((decide ((d.vars.length:Int)≤5)&&decide ((d.flags.length:Int)≤3))&&decide ((d.arrays.length:Int)≤2))&&d.arrays.all (fun x0=>inR x0.size 1 16)))=(Decl.ok d) by exact Decl.ok_right (j:=j) (by omega) hI.2)) .nil) (.dd .nil) Y
end Go.Proofs

namespace Go.Proofs
open Go Go.Proofs Go.Ev

theorem c_sizeS (l:List ByteArray):Trip Tryd.prog 85 [(false,1)] ([.sl false 9 1 (List.map strc (l))]) [(false,1)] [.v (.int .i64 ((l.length:Int)))] []:=by
 refine Trip.of Tryd.func85 (by decide) (c:=_) Y Y (Nat.le_of_ble_eq_true Y) Y (AftOk.nil _)<|.sl (t:=0) Y fun hs1l=>.seq<|.rs fun k2=>.as Y<|.z<|.seq<|.rs fun k3=>.mv Y ?_
 refine .g (fun _ τ=>⟨_,.len (.no Y) Y (z:=(l.length:Int)) t33 Y Y Y (.d _ _) (map_len _ _) Y τ⟩)<|.as Y<|.z<|.ret ?_
 exact fin0 (.inr Y) (.one Y .nil) (.dd .nil) Y
end Go.Proofs

namespace Go.Proofs
open Go Go.Proofs Go.Ev

theorem c_sizeA (l:List Arr):Trip Tryd.prog 86 [(false,1)] ([.sl false 78 2 (List.map Arr.c (l))]) [(false,1)] [.v (.int .i64 ((l.length:Int)))] []:=by
 refine Trip.of Tryd.func86 (by decide) (c:=_) Y Y (Nat.le_of_ble_eq_true Y) Y (AftOk.nil _)<|.sl (t:=0) Y fun hs1l=>.seq<|.rs fun k2=>.as Y<|.z<|.seq<|.rs fun k3=>.mv Y ?_
 refine .g (fun _ τ=>⟨_,.len (.no Y) Y (z:=(l.length:Int)) t34 Y Y Y (.d _ _) (map_len _ _) Y τ⟩)<|.as Y<|.z<|.ret ?_
 exact fin0 (.inr Y) (.one Y .nil) (.dd .nil) Y
end Go.Proofs

namespace Go.Proofs
open Go Go.Proofs Go.Ev

def i64c (x:Int):List D:=[.v (.int .i64 x)]
theorem i64c_e (x:Int):(i64c x).map D.erase=i64c x:=by simp [i64c,D.erase_v]
theorem i64c_o (x:Int):∀ d∈i64c x,Owned d:=by simp [i64c,Owned.v]
def boolc (x:Bool):List D:=[.v (.bool x)]
theorem boolc_e (x:Bool):(boolc x).map D.erase=boolc x:=by simp [boolc,D.erase_v]
theorem boolc_o (x:Bool):∀ d∈boolc x,Owned d:=by simp [boolc,Owned.v]
def slc42 (x:List Int):List D:=[.sl false 2 1 (List.map i64c (x))]
theorem slc42_e (x:List Int):(slc42 x).map D.erase=slc42 x:=by simp [slc42,erase_slo _ _ _ _ _ _ i64c_e]
def slco42 (x:List Int):List D:=[.sl true 2 1 (List.map i64c (x))]
theorem slco42_e (x:List Int):(slco42 x).map D.erase=slc42 x:=by simp [slco42,slc42,erase_slo _ _ _ _ _ _ i64c_e]
theorem slco42_o (x:List Int):∀ d∈slco42 x,Owned d:=by simp [slco42,Owned.map _ _ _ _ i64c_o]
def Store.c46 (x:Store):List D:=[.sl false 2 1 (List.map i64c (x.ints)),.sl false 4 1 (List.map boolc (x.flags)),.sl false 42 1 (List.map slc42 (x.arrs))]
theorem Store.c46_e (x:Store):(Store.c46 x).map D.erase=Store.c46 x:=by simp [Store.c46,D.erase_v,erase_slo _ _ _ _ _ _ i64c_e,erase_slo _ _ _ _ _ _ boolc_e,erase_slo _ _ _ _ _ _ slc42_e]
def Store.co46 (x:Store):List D:=[.sl true 2 1 (List.map i64c (x.ints)),.sl true 4 1 (List.map boolc (x.flags)),.sl true 42 1 (List.map slco42 (x.arrs))]
theorem Store.co46_e (x:Store):(Store.co46 x).map D.erase=Store.c46 x:=by simp [Store.co46,Store.c46,D.erase_v,erase_slo _ _ _ _ _ _ i64c_e,erase_slo _ _ _ _ _ _ boolc_e,erase_slo _ _ _ _ _ _ slco42_e]
theorem Store.co46_o (x:Store):∀ d∈Store.co46 x,Owned d:=by simp [Store.co46,Owned.v,Owned.map _ _ _ _ i64c_o,Owned.map _ _ _ _ boolc_o,Owned.map _ _ _ _ slco42_o]
def i42:TI:=⟨.sl 2,1,24,[.slice none 0 0]⟩
theorem t42:TyOk Tryd.prog 42 i42:=⟨Tryd.underlying42,by kernel_rfl⟩
theorem z42:ZOk Tryd.prog 42 i42:=⟨t42,rfl⟩
def i43:TI:=⟨.sl 4,1,24,[.slice none 0 0]⟩
theorem t43:TyOk Tryd.prog 43 i43:=⟨Tryd.underlying43,by kernel_rfl⟩
theorem z43:ZOk Tryd.prog 43 i43:=⟨t43,rfl⟩
def i44:TI:=⟨.sl 42,1,24,[.slice none 0 0]⟩
theorem t44:TyOk Tryd.prog 44 i44:=⟨Tryd.underlying44,by kernel_rfl⟩
theorem z44:ZOk Tryd.prog 44 i44:=⟨t44,rfl⟩
def i46:TI:=⟨.st [(0,42),(1,43),(2,44)],3,72,[.slice none 0 0,.slice none 0 0,.slice none 0 0]⟩
theorem t46:TyOk Tryd.prog 46 i46:=⟨⟨_,Tryd.underlying46,rfl⟩,by kernel_rfl⟩
theorem z46:ZOk Tryd.prog 46 i46:=⟨t46,rfl⟩
theorem p46:Places Tryd.prog [(0,42),(1,43),(2,44)] [(0,1),(1,1),(2,1)]:=by unfold Places; kernel_rfl
theorem c_sStoreOk (d:Decl) (s:Store) (hs:∀ x∈Decl.names d,x.size≤9223372036854775807) (hd:d.vars.length≤1048576∧d.flags.length≤1048576∧d.arrays.length≤1048576) (hst:Store.small s):Trip Tryd.prog 18 [(true,3),(true,3)] (Decl.c36 d++Store.c46 s) [(false,1)] [.v (.bool (Store.ok d s))] []:=by
 refine Trip.of Tryd.func18 (by decide) (c:=_) Y Y (Nat.le_of_ble_eq_true Y) Y (AftOk.nil _)<|.sla (t:=0) 0 Y Y fun hs1l=>.sla (t:=0) 1 Y Y fun hs2l=>.sla (t:=0) 2 Y Y fun hs3l=>.sla (t:=1) 0 Y Y fun hs4l=>.sla (t:=1) 1 Y Y fun hs5l=>.sla (t:=1) 2 Y Y fun hs6l=>.seq<|.rs fun k7=>?_
 refine .g (fun _ τ=>⟨_,.box (.no Y) Y Y Y Y Y τ⟩)<|.g (fun _ τ=>⟨_,.box (.no Y) Y Y Y Y Y τ⟩)<|.as Y<|.z<|.seq<|.seq ?_
 refine .reg (X:=Unit) (fun ζ=>.of [(2,.one (.ptr [2] (k7) 0)),(3,.one (.ptr [3] (k7+1) 0)),(35,.one (.d (.v (.bool ((((!(Decl.ok d)||(s.ints.length:Int) != (d.vars.length:Int))||(s.flags.length:Int) != (d.flags.length:Int))||(s.arrs.length:Int) != (d.arrays.length:Int)))))))] [([2],(k7,k7,.box [.d (.sl false 9 1 (List.map strc (d.vars))),.d (.sl false 9 1 (List.map strc (d.flags))),.d (.sl false 78 2 (List.map Arr.c (d.arrays)))])),([3],(k7+1,k7+1,.box [.d (.sl false 2 1 (List.map i64c (s.ints))),.d (.sl false 4 1 (List.map boolc (s.flags))),.d (.sl false 42 1 (List.map slc42 (s.arrs)))]))]) [⟨[2],some 6,[[2]],[]⟩,⟨[6],some 7,[],[]⟩,⟨[7],some 8,[],[]⟩,⟨[8],some 9,[],[]⟩,⟨[9,3],some 10,[],[]⟩,⟨[9,10],some 11,[[3]],[]⟩,⟨[9,11],some 12,[],[]⟩,⟨[9,2],some 13,[],[]⟩,⟨[9,13],some 14,[[2]],[]⟩,⟨[9,14],some 15,[],[]⟩,⟨[9,12,15],some 16,[],[]⟩,⟨[9,16],some 17,[],[]⟩,⟨[17],some 18,[],[]⟩,⟨[18,3],some 19,[],[]⟩,⟨[18,19],some 20,[[3]],[]⟩,⟨[18,20],some 21,[],[]⟩,⟨[18,2],some 22,[],[]⟩,⟨[18,22],some 23,[[2]],[]⟩,⟨[18,23],some 24,[],[]⟩,⟨[18,21,24],some 25,[],[]⟩,⟨[18,25],some 26,[],[]⟩,⟨[26],some 27,[],[]⟩,⟨[27,3],some 28,[],[]⟩,⟨[27,28],some 29,[[3]],[]⟩,⟨[27,29],some 30,[],[]⟩,⟨[27,2],some 31,[],[]⟩,⟨[27,31],some 32,[[2]],[]⟩,⟨[27,32],some 33,[],[]⟩,⟨[27,30,33],some 34,[],[]⟩,⟨[27,34],some 35,[],[]⟩] (fun k8=>?_) ?_
 ·skip
  refine .load (.no Y) Y t36 Y Y (.ptr _ _ _ _ _ Y) Y Y Y Y<|.call (.no Y) Y [] [] (c_sDeclOk d (by assumption) (by assumption)) Y Y Y Y Y (.dd (.dd (.dd .nil))) Y Y (fun h=>absurd Y h) (.own [7,0] .nil) (.nil) Y Y Y (by simp) Y Y Y<|.un (.no Y) Y Y Y Y Y<|.moveB (.no Y) Y Y Y Y fun b9 g1_3=>?_
  cases b9
  ·skip
   refine .fieldAddrP (.on Y Y Y Y Y) Y t46 Y Y t42 Y Y Y Y<|.load (.on Y Y Y Y Y) Y t42 Y Y (.ptr _ _ _ _ _ Y) Y Y Y Y<|.len (.on Y Y Y Y Y) Y (z:=(s.ints.length:Int)) t42 Y Y Y (.d _ _) (map_len _ _) Y<|.fieldAddrP (.on Y Y Y Y Y) Y t36 Y Y t33 Y Y Y Y<|.load (.on Y Y Y Y Y) Y t33 Y Y (.ptr _ _ _ _ _ Y) Y Y Y Y<|.len (.on Y Y Y Y Y) Y (z:=(d.vars.length:Int)) t33 Y Y Y (.d _ _) (map_len _ _) Y<|.bin (.on Y Y Y Y Y) Y Y Y Y Y Y<|.pick (.no Y) Y Y Y Y Y<|.moveB (.no Y) Y Y Y Y fun b10 g1_12=>?_
   cases b10
   ·skip
    refine .fieldAddrP (.on Y Y Y Y Y) Y t46 Y Y t43 Y Y Y Y<|.load (.on Y Y Y Y Y) Y t43 Y Y (.ptr _ _ _ _ _ Y) Y Y Y Y<|.len (.on Y Y Y Y Y) Y (z:=(s.flags.length:Int)) t43 Y Y Y (.d _ _) (map_len _ _) Y<|.fieldAddrP (.on Y Y Y Y Y) Y t36 Y Y t33 Y Y Y Y<|.load (.on Y Y Y Y Y) Y t33 Y Y (.ptr _ _ _ _ _ Y) Y Y Y Y<|.len (.on Y Y Y Y Y) Y (z:=(d.flags.length:Int)) t33 Y Y Y (.d _ _) (map_len _ _) Y<|.bin (.on Y Y Y Y Y) Y Y Y Y Y Y<|.pick (.no Y) Y Y Y Y Y<|.moveB (.no Y) Y Y Y Y fun b11 g1_21=>?_
    cases b11
    ·skip
     refine .fieldAddrP (.on Y Y Y Y Y) Y t46 Y Y t44 Y Y Y Y<|.load (.on Y Y Y Y Y) Y t44 Y Y (.ptr _ _ _ _ _ Y) Y Y Y Y<|.len (.on Y Y Y Y Y) Y (z:=(s.arrs.length:Int)) t44 Y Y Y (.d _ _) (map_len _ _) Y<|.fieldAddrP (.on Y Y Y Y Y) Y t36 Y Y t34 Y Y Y Y<|.load (.on Y Y Y Y Y) Y t34 Y Y (.ptr _ _ _ _ _ Y) Y Y Y Y<|.len (.on Y Y Y Y Y) Y (z:=(d.arrays.length:Int)) t34 Y Y Y (.d _ _) (map_len _ _) Y<|.bin (.on Y Y Y Y Y) Y Y Y Y Y Y<|.pick (.no Y) Y Y Y Y Y ?_
     exact .fin () (.of (.cons Y (.cons Y (.cons (svB (show ((s.arrs.length:Int) != (d.arrays.length:Int))=((((!(Decl.ok d)||(s.ints.length:Int) != (d.vars.length:Int))||(s.flags.length:Int) != (d.flags.length:Int))||(s.arrs.length:Int) != (d.arrays.length:Int))) by first | (simp only [g1_3,g1_12,g1_21,Bool.true_or,Bool.false_or,Bool.true_and,Bool.false_and,Bool.not_true,Bool.not_false]; done) | (simp [g1_3,g1_12,g1_21]; done) | (exfalso; simp_all; done))) .nil))) (.r Y))
    ·skip
     refine .off Y Y Y Y Y Y Y<|.off Y Y Y Y Y Y Y<|.off Y Y Y Y Y Y Y<|.off Y Y Y Y Y Y Y<|.off Y Y Y Y Y Y Y<|.off Y Y Y Y Y Y Y<|.off Y Y Y Y Y Y Y<|.pick (.no Y) Y Y Y Y Y ?_
     exact .fin () (.of (.cons Y (.cons Y (.cons (svB (show (true)=((((!(Decl.ok d)||(s.ints.length:Int) != (d.vars.length:Int))||(s.flags.length:Int) != (d.flags.length:Int))||(s.arrs.length:Int) != (d.arrays.length:Int))) by first | (simp only [g1_3,g1_12,g1_21,Bool.true_or,Bool.false_or,Bool.true_and,Bool.false_and,Bool.not_true,Bool.not_false]; done) | (simp [g1_3,g1_12,g1_21]; done) | (exfalso; simp_all; done))) .nil))) (.r Y))
   ·skip
    refine .off Y Y Y Y Y Y Y<|.off Y Y Y Y Y Y Y<|.off Y Y Y Y Y Y Y<|.off Y Y Y Y Y Y Y<|.off Y Y Y Y Y Y Y<|.off Y Y Y Y Y Y Y<|.off Y Y Y Y Y Y Y<|.pick (.no Y) Y Y Y Y Y<|.move (.no Y) Y Y Y Y ?_
    refine .off Y Y Y Y Y Y Y<|.off Y Y Y Y Y Y Y<|.off Y Y Y Y Y Y Y<|.off Y Y Y Y Y Y Y<|.off Y Y Y Y Y Y Y<|.off Y Y Y Y Y Y Y<|.off Y Y Y Y Y Y Y<|.pick (.no Y) Y Y Y Y Y ?_
    exact .fin () (.of (.cons Y (.cons Y (.cons (svB (show (true)=((((!(Decl.ok d)||(s.ints.length:Int) != (d.vars.length:Int))||(s.flags.length:Int) != (d.flags.length:Int))||(s.arrs.length:Int) != (d.arrays.length:Int))) by first | (simp only [g1_3,g1_12,Bool.true_or,Bool.false_or,Bool.true_and,Bool.false_and,Bool.not_true,Bool.not_false]; done) | (simp [g1_3,g1_12]; done) | (exfalso; simp_all; done))) .nil))) (.r Y))
  ·skip
   refine .off Y Y Y Y Y Y Y<|.off Y Y Y Y Y Y Y<|.off Y Y Y Y Y Y Y<|.off Y Y Y Y Y Y Y<|.off Y Y Y Y Y Y Y<|.off Y Y Y Y Y Y Y<|.off Y Y Y Y Y Y Y<|.pick (.no Y) Y Y Y Y Y<|.move (.no Y) Y Y Y Y ?_
   refine .off Y Y Y Y Y Y Y<|.off Y Y Y Y Y Y Y<|.off Y Y Y Y Y Y Y<|.off Y Y Y Y Y Y Y<|.off Y Y Y Y Y Y Y<|.off Y Y Y Y Y Y Y<|.off Y Y Y Y Y Y Y<|.pick (.no Y) Y Y Y Y Y<|.move (.no Y) Y Y Y Y ?_
   refine .off Y Y Y Y Y Y Y<|.off Y Y Y Y Y Y Y<|.off Y Y Y Y Y Y Y<|.off Y Y Y Y Y Y Y<|.off Y Y Y Y Y Y Y<|.off Y Y Y Y Y Y Y<|.off Y Y Y Y Y Y Y<|.pick (.no Y) Y Y Y Y Y ?_
   exact .fin () (.of (.cons Y (.cons Y (.cons (svB (show (true)=((((!(Decl.ok d)||(s.ints.length:Int) != (d.vars.length:Int))||(s.flags.length:Int) != (d.flags.length:Int))||(s.arrs.length:Int) != (d.arrays.length:Int))) by first | (simp only [g1_3,Bool.true_or,Bool.false_or,Bool.true_and,Bool.false_and,Bool.not_true,Bool.not_false]; done) | (simp [g1_3]; done) | (exfalso; simp_all; done))) .nil))) (.r Y))
 intro _
 refine .cond (t:=(((!(Decl.ok d)||(s.ints.length:Int) != (d.vars.length:Int))||(s.flags.length:Int) != (d.flags.length:Int))||(s.arrs.length:Int) != (d.arrays.length:Int))) Y (fun c0=>?_) (fun c0=>?_)
 ·have c0:=(oT (oT (oT (nT id) bT) bT) bT) c0
  refine .seq<|.rs fun k12=>.as Y<|.z<|.ret ?_
  exact fin0 (.inr Y) (.one (svB (show (false)=(Store.ok d s) by (rw [Store.ok_no c0]))) .nil) (.dd .nil) Y
 ·have c0:=(oF (oF (oF (nF id) bF) bF) bF) c0
  refine .skip<|.seq<|.seq<|.rs fun k14=>.as Y<|.z<|.block ?_
  refine .loop (X:=Nat) (fun ζ=>.of [(2,.one (.ptr [2] (k7) 0)),(3,.one (.ptr [3] (k7+1) 0)),(5,.one (.d (.v (.int .i64 ((ζ:Int))))))] [([2],(k7,k7,.box [.d (.sl false 9 1 (List.map strc (d.vars))),.d (.sl false 9 1 (List.map strc (d.flags))),.d (.sl false 78 2 (List.map Arr.c (d.arrays)))])),([3],(k7+1,k7+1,.box [.d (.sl false 2 1 (List.map i64c (s.ints))),.d (.sl false 4 1 (List.map boolc (s.flags))),.d (.sl false 42 1 (List.map slc42 (s.arrs)))]))]) (fun ζ=>ζ≤d.arrays.length∧allTo ζ (fun i=>((s.arrs.getD i default).length:Int) == (d.arrays.getD i default).size)=true) (fun ζ=>d.arrays.length - ζ) ?_ ?_
  ·skip
   exact .here 0 (.of (.cons Y (.cons Y (.cons (svI (show (0)=((0:Int)) by first | rfl | omega | exact wrap_le (by omega) (by omega) | (rw [wrap_le (by omega) (by omega)]; omega))) .nil))) (.r Y)) (show 0≤d.arrays.length∧allTo 0 (fun i=>((s.arrs.getD i default).length:Int) == (d.arrays.getD i default).size)=true by exact ⟨by omega,rfl⟩)
  ·rintro j hI
   have hI:j≤d.arrays.length∧allTo j (fun i=>((s.arrs.getD i default).length:Int) == (d.arrays.getD i default).size)=true:=hI
   have hn9:d.arrays.length=s.arrs.length:=(by omega)
   refine .seq<|.seq<|.rs fun k15=>.mv Y<|.fp t46 t44 Y<|.ld t44 Y (.ptr _ _ _ _ _ Y) Y<|.g (fun _ τ=>⟨_,.len (.no Y) Y (z:=(s.arrs.length:Int)) t44 Y Y Y (.d _ _) (map_len _ _) Y τ⟩)<|.bi Y<|.z ?_
   refine .cond (t:=decide ((j:Int) < (s.arrs.length:Int))) Y (fun c1=>?_) (fun c1=>?_)
   ·have c1:=of_decide_eq_true c1
    refine .skip<|.seq<|.block<|.seq ?_
    refine .regD (X:=Unit) (by kernel_rfl) (fun ζ=>.of [(2,.one (.ptr [2] (k7) 0)),(3,.one (.ptr [3] (k7+1) 0)),(5,.one (.d (.v (.int .i64 ((j:Int)))))),(55,.one (.d (.v (.bool (((s.arrs.getD j default).length:Int) != ((d.arrays.getD j default).size))))))] [([2],(k7,k7,.box [.d (.sl false 9 1 (List.map strc (d.vars))),.d (.sl false 9 1 (List.map strc (d.flags))),.d (.sl false 78 2 (List.map Arr.c (d.arrays)))])),([3],(k7+1,k7+1,.box [.d (.sl false 2 1 (List.map i64c (s.ints))),.d (.sl false 4 1 (List.map boolc (s.flags))),.d (.sl false 42 1 (List.map slc42 (s.arrs)))]))]) [⟨[3],some 43,[],[]⟩,⟨[43],some 44,[[3]],[]⟩,⟨[5],some 45,[],[]⟩,⟨[44,45],some 46,[],[]⟩,⟨[46],some 47,[],[]⟩,⟨[47],some 48,[],[]⟩,⟨[2],some 49,[],[]⟩,⟨[49],some 50,[[2]],[]⟩,⟨[5],some 51,[],[]⟩,⟨[50,51],some 52,[],[]⟩,⟨[52],some 53,[],[]⟩,⟨[53],some 54,[],[]⟩,⟨[48,54],some 55,[],[]⟩] (by kernel_rfl) (fun k16=>?_) ?_
    ·skip
     refine .fieldAddrP (.no Y) Y t46 Y Y t44 Y Y Y Y<|.load (.no Y) Y t44 Y Y (.ptr _ _ _ _ _ Y) Y Y Y Y<|.move (.no Y) Y Y Y Y<|.indexAddr (.no Y) Y (j) t44 Y t42 Y Y Y (.d _ _) Y Y Y (map_get (by omega)) Y Y<|.load (.no Y) Y t42 Y Y (.d _) Y Y Y Y<|.len (.no Y) Y (z:=((s.arrs.getD j default).length:Int)) t42 Y Y Y (.d _ _) (map_len _ _) Y<|.fieldAddrP (.no Y) Y t36 Y Y t34 Y Y Y Y<|.load (.no Y) Y t34 Y Y (.ptr _ _ _ _ _ Y) Y Y Y Y<|.move (.no Y) Y Y Y Y ?_
     refine .indexAddr (.no Y) Y (j) t34 Y t78 Y Y Y (.d _ _) Y Y Y (map_get (by omega)) Y Y<|.fieldAddr (.no Y) Y t78 Y Y t2 Y Y Y Y [] (by simp) (by intro _ _ _ h; cases h) Y Y<|.load (.no Y) Y t2 Y Y (.d _) Y Y Y Y<|.bin (.no Y) Y Y Y Y Y Y ?_
     exact .fin () (.of (.r Y) (.r Y))
    intro _
    refine .cond (t:=((s.arrs.getD j default).length:Int) != ((d.arrays.getD j default).size)) Y (fun c2=>?_) (fun c2=>?_)
    ·have c2:=(by simpa using c2:¬ (((s.arrs.getD j default).length:Int)=((d.arrays.getD j default).size)))
     refine .seq<|.rs fun k17=>.as Y<|.z<|.ret ?_
     exact fin0 (.inr Y) (.one (svB (show (false)=(Store.ok d s) by (rw [Store.ok_yes c0.1.1.1,Store.okIn_fail (j:=j) (by omega) c2]))) .nil) (.dd .nil) Y
    ·have c2:=(by simpa using c2:((s.arrs.getD j default).length:Int)=((d.arrays.getD j default).size))
     refine .skip<|.rs fun k19=>.mv Y<|.bi Y<|.as Y<|.z ?_
     exact .here (j+1) (.of (.cons Y (.cons Y (.cons (svI (show (IntKind.wrap .i64 ((j:Int)+1))=(((j+1):Int)) by first | rfl | omega | exact wrap_le (by omega) (by omega) | (rw [wrap_le (by omega) (by omega)]; omega))) .nil))) (.r Y)) ⟨(show (j+1)≤d.arrays.length∧allTo (j+1) (fun i=>((s.arrs.getD i default).length:Int) == (d.arrays.getD i default).size)=true by exact ⟨by omega,allTo_step hI.2 (by simpa using c2)⟩),(show d.arrays.length - (j+1) < d.arrays.length - j by omega)⟩
   ·have c1:=of_decide_eq_false c1
    refine .exit<|.seq<|.rs fun k20=>.as Y<|.z<|.ret ?_
    exact fin0 (.inr Y) (.one (svB (show (true)=(Store.ok d s) by (rw [Store.ok_yes c0.1.1.1,Store.okIn_done (j:=j) (by omega) (by omega) hI.2]))) .nil) (.dd .nil) Y
theorem c_sizeN (l:List Int):Trip Tryd.prog 79 [(false,1)] ([.sl false 2 1 (List.map i64c (l))]) [(false,1)] [.v (.int .i64 ((l.length:Int)))] []:=by
 refine Trip.of Tryd.func79 (by decide) (c:=_) Y Y (Nat.le_of_ble_eq_true Y) Y (AftOk.nil _)<|.sl (t:=0) Y fun hs1l=>.seq<|.rs fun k2=>.as Y<|.z<|.seq<|.rs fun k3=>.mv Y ?_
 refine .g (fun _ τ=>⟨_,.len (.no Y) Y (z:=(l.length:Int)) t42 Y Y Y (.d _ _) (map_len _ _) Y τ⟩)<|.as Y<|.z<|.ret ?_
 exact fin0 (.inr Y) (.one Y .nil) (.dd .nil) Y
theorem c_isStore (d:Decl) (s:Store):Trip Tryd.prog 51 [(true,3),(true,3)] (Decl.c36 d++Store.c46 s) [(false,1)] [.v (.bool (Store.okIn d s))] []:=by
 refine Trip.of Tryd.func51 (by decide) (c:=_) Y Y (Nat.le_of_ble_eq_true Y) Y (AftOk.nil _)<|.sla (t:=0) 0 Y Y fun hs1l=>.sla (t:=0) 1 Y Y fun hs2l=>.sla (t:=0) 2 Y Y fun hs3l=>.sla (t:=1) 0 Y Y fun hs4l=>.sla (t:=1) 1 Y Y fun hs5l=>.sla (t:=1) 2 Y Y fun hs6l=>.seq<|.rs fun k7=>?_
 refine .g (fun _ τ=>⟨_,.box (.no Y) Y Y Y Y Y τ⟩)<|.g (fun _ τ=>⟨_,.box (.no Y) Y Y Y Y Y τ⟩)<|.as Y<|.z<|.seq<|.seq ?_
 refine .reg (X:=Unit) (fun ζ=>.of [(2,.one (.ptr [2] (k7) 0)),(3,.one (.ptr [3] (k7+1) 0)),(31,.one (.d (.v (.bool ((((s.ints.length:Int) != (d.vars.length:Int)||(s.flags.length:Int) != (d.flags.length:Int))||(s.arrs.length:Int) != (d.arrays.length:Int)))))))] [([2],(k7,k7,.box [.d (.sl false 9 1 (List.map strc (d.vars))),.d (.sl false 9 1 (List.map strc (d.flags))),.d (.sl false 78 2 (List.map Arr.c (d.arrays)))])),([3],(k7+1,k7+1,.box [.d (.sl false 2 1 (List.map i64c (s.ints))),.d (.sl false 4 1 (List.map boolc (s.flags))),.d (.sl false 42 1 (List.map slc42 (s.arrs)))]))]) [⟨[3],some 7,[],[]⟩,⟨[7],some 8,[[3]],[]⟩,⟨[8],some 9,[],[]⟩,⟨[2],some 10,[],[]⟩,⟨[10],some 11,[[2]],[]⟩,⟨[11],some 12,[],[]⟩,⟨[9,12],some 13,[],[]⟩,⟨[13],some 14,[],[]⟩,⟨[14,3],some 15,[],[]⟩,⟨[14,15],some 16,[[3]],[]⟩,⟨[14,16],some 17,[],[]⟩,⟨[14,2],some 18,[],[]⟩,⟨[14,18],some 19,[[2]],[]⟩,⟨[14,19],some 20,[],[]⟩,⟨[14,17,20],some 21,[],[]⟩,⟨[14,21],some 22,[],[]⟩,⟨[22],some 23,[],[]⟩,⟨[23,3],some 24,[],[]⟩,⟨[23,24],some 25,[[3]],[]⟩,⟨[23,25],some 26,[],[]⟩,⟨[23,2],some 27,[],[]⟩,⟨[23,27],some 28,[[2]],[]⟩,⟨[23,28],some 29,[],[]⟩,⟨[23,26,29],some 30,[],[]⟩,⟨[23,30],some 31,[],[]⟩] (fun k8=>?_) ?_
 ·skip
  refine .fieldAddrP (.no Y) Y t46 Y Y t42 Y Y Y Y<|.load (.no Y) Y t42 Y Y (.ptr _ _ _ _ _ Y) Y Y Y Y<|.len (.no Y) Y (z:=(s.ints.length:Int)) t42 Y Y Y (.d _ _) (map_len _ _) Y<|.fieldAddrP (.no Y) Y t36 Y Y t33 Y Y Y Y<|.load (.no Y) Y t33 Y Y (.ptr _ _ _ _ _ Y) Y Y Y Y<|.len (.no Y) Y (z:=(d.vars.length:Int)) t33 Y Y Y (.d _ _) (map_len _ _) Y<|.bin (.no Y) Y Y Y Y Y Y<|.moveB (.no Y) Y Y Y Y fun b9 g1_7=>?_
  cases b9
  ·skip
   refine .fieldAddrP (.on Y Y Y Y Y) Y t46 Y Y t43 Y Y Y Y<|.load (.on Y Y Y Y Y) Y t43 Y Y (.ptr _ _ _ _ _ Y) Y Y Y Y<|.len (.on Y Y Y Y Y) Y (z:=(s.flags.length:Int)) t43 Y Y Y (.d _ _) (map_len _ _) Y<|.fieldAddrP (.on Y Y Y Y Y) Y t36 Y Y t33 Y Y Y Y<|.load (.on Y Y Y Y Y) Y t33 Y Y (.ptr _ _ _ _ _ Y) Y Y Y Y<|.len (.on Y Y Y Y Y) Y (z:=(d.flags.length:Int)) t33 Y Y Y (.d _ _) (map_len _ _) Y<|.bin (.on Y Y Y Y Y) Y Y Y Y Y Y<|.pick (.no Y) Y Y Y Y Y<|.moveB (.no Y) Y Y Y Y fun b10 g1_16=>?_
   cases b10
   ·skip
    refine .fieldAddrP (.on Y Y Y Y Y) Y t46 Y Y t44 Y Y Y Y<|.load (.on Y Y Y Y Y) Y t44 Y Y (.ptr _ _ _ _ _ Y) Y Y Y Y<|.len (.on Y Y Y Y Y) Y (z:=(s.arrs.length:Int)) t44 Y Y Y (.d _ _) (map_len _ _) Y<|.fieldAddrP (.on Y Y Y Y Y) Y t36 Y Y t34 Y Y Y Y<|.load (.on Y Y Y Y Y) Y t34 Y Y (.ptr _ _ _ _ _ Y) Y Y Y Y<|.len (.on Y Y Y Y Y) Y (z:=(d.arrays.length:Int)) t34 Y Y Y (.d _ _) (map_len _ _) Y<|.bin (.on Y Y Y Y Y) Y Y Y Y Y Y<|.pick (.no Y) Y Y Y Y Y ?_
    exact .fin () (.of (.cons Y (.cons Y (.cons (svB (show ((s.arrs.length:Int) != (d.arrays.length:Int))=((((s.ints.length:Int) != (d.vars.length:Int)||(s.flags.length:Int) != (d.flags.length:Int))||(s.arrs.length:Int) != (d.arrays.length:Int))) by first | (simp only [g1_7,g1_16,Bool.true_or,Bool.false_or,Bool.true_and,Bool.false_and,Bool.not_true,Bool.not_false]; done) | (simp [g1_7,g1_16]; done) | (exfalso; simp_all; done))) .nil))) (.r Y))
   ·skip
    refine .off Y Y Y Y Y Y Y<|.off Y Y Y Y Y Y Y<|.off Y Y Y Y Y Y Y<|.off Y Y Y Y Y Y Y<|.off Y Y Y Y Y Y Y<|.off Y Y Y Y Y Y Y<|.off Y Y Y Y Y Y Y<|.pick (.no Y) Y Y Y Y Y ?_
    exact .fin () (.of (.cons Y (.cons Y (.cons (svB (show (true)=((((s.ints.length:Int) != (d.vars.length:Int)||(s.flags.length:Int) != (d.flags.length:Int))||(s.arrs.length:Int) != (d.arrays.length:Int))) by first | (simp only [g1_7,g1_16,Bool.true_or,Bool.false_or,Bool.true_and,Bool.false_and,Bool.not_true,Bool.not_false]; done) | (simp [g1_7,g1_16]; done) | (exfalso; simp_all; done))) .nil))) (.r Y))
  ·skip
   refine .off Y Y Y Y Y Y Y<|.off Y Y Y Y Y Y Y<|.off Y Y Y Y Y Y Y<|.off Y Y Y Y Y Y Y<|.off Y Y Y Y Y Y Y<|.off Y Y Y Y Y Y Y<|.off Y Y Y Y Y Y Y<|.pick (.no Y) Y Y Y Y Y<|.move (.no Y) Y Y Y Y ?_
   refine .off Y Y Y Y Y Y Y<|.off Y Y Y Y Y Y Y<|.off Y Y Y Y Y Y Y<|.off Y Y Y Y Y Y Y<|.off Y Y Y Y Y Y Y<|.off Y Y Y Y Y Y Y<|.off Y Y Y Y Y Y Y<|.pick (.no Y) Y Y Y Y Y ?_
   exact .fin () (.of (.cons Y (.cons Y (.cons (svB (show (true)=((((s.ints.length:Int) != (d.vars.length:Int)||(s.flags.length:Int) != (d.flags.length:Int))||(s.arrs.length:Int) != (d.arrays.length:Int))) by first | (simp only [g1_7,Bool.true_or,Bool.false_or,Bool.true_and,Bool.false_and,Bool.not_true,Bool.not_false]; done) | (simp [g1_7]; done) | (exfalso; simp_all; done))) .nil))) (.r Y))
 intro _
 refine .cond (t:=(((s.ints.length:Int) != (d.vars.length:Int)||(s.flags.length:Int) != (d.flags.length:Int))||(s.arrs.length:Int) != (d.arrays.length:Int))) Y (fun c0=>?_) (fun c0=>?_)
 ·have c0:=(oT (oT bT bT) bT) c0
  refine .seq<|.rs fun k11=>.as Y<|.z<|.ret ?_
  exact fin0 (.inr Y) (.one (svB (show (false)=(Store.okIn d s) by (rw [Store.okIn_no c0]))) .nil) (.dd .nil) Y
 ·have c0:=(oF (oF bF bF) bF) c0
  refine .skip<|.seq<|.seq<|.rs fun k13=>.fp t36 t34 Y<|.ld t34 Y (.ptr _ _ _ _ _ Y) Y<|.g (fun _ τ=>⟨_,.len (.no Y) Y (z:=(d.arrays.length:Int)) t34 Y Y Y (.d _ _) (map_len _ _) Y τ⟩)<|.mv Y<|.z ?_
  refine .block ?_
  refine .loop (X:=Nat) (fun ζ=>.of [(3,.one (.ptr [3] (k7+1) 0)),(33,.one (.d (.sl false 78 2 (List.map Arr.c (d.arrays))))),(34,.one (.d (.v (.int .i64 ((d.arrays.length:Int)))))),(35,.one (.d (.v (.int .i64 ((ζ:Int))))))] [([3],(k7+1,k7+1,.box [.d (.sl false 2 1 (List.map i64c (s.ints))),.d (.sl false 4 1 (List.map boolc (s.flags))),.d (.sl false 42 1 (List.map slc42 (s.arrs)))]))]) (fun ζ=>ζ≤d.arrays.length∧allTo ζ (fun i=>((s.arrs.getD i default).length:Int) == (d.arrays.getD i default).size)=true) (fun ζ=>d.arrays.length - ζ) ?_ ?_
  ·skip
   exact .here 0 (.of (.cons Y (.cons Y (.cons Y (.cons (svI (show (0)=((0:Int)) by first | rfl | omega | exact wrap_le (by omega) (by omega) | (rw [wrap_le (by omega) (by omega)]; omega))) .nil)))) (.r Y)) (show 0≤d.arrays.length∧allTo 0 (fun i=>((s.arrs.getD i default).length:Int) == (d.arrays.getD i default).size)=true by exact ⟨by omega,rfl⟩)
  ·rintro j hI
   have hI:j≤d.arrays.length∧allTo j (fun i=>((s.arrs.getD i default).length:Int) == (d.arrays.getD i default).size)=true:=hI
   have hn9:d.arrays.length=s.arrs.length:=(by omega)
   refine .seq<|.rs fun k14=>.bi Y<|.z<|.seq ?_
   refine .cond (t:=decide ((j:Int) < (d.arrays.length:Int))) Y (fun c1=>?_) (fun c1=>?_)
   ·have c1:=of_decide_eq_true c1
    refine .skip<|.seq<|.block<|.seq<|.rs fun k15=>.mv Y<|.g (fun _ τ=>⟨_,.indexAddr (.no Y) Y (j) t34 Y t78 Y Y Y (.d _ _) Y Y Y (map_get (by omega)) Y Y τ⟩)<|.lda t78 Y (.d _) Y<|.g (fun _ τ=>⟨_,.alloc (.no Y) Y z78 Y Y Y τ⟩) ?_
    refine .as Y<|.g (fun _ τ=>⟨_,.store (.no Y) Y t78 Y Y Y Y Y Y Y Y Y τ⟩)<|.z<|.seq ?_
    refine .regD (X:=Unit) (by kernel_rfl) (fun ζ=>.of [(3,.one (.ptr [3] (k7+1) 0)),(33,.one (.d (.sl false 78 2 (List.map Arr.c (d.arrays))))),(34,.one (.d (.v (.int .i64 ((d.arrays.length:Int)))))),(35,.one (.d (.v (.int .i64 ((j:Int)))))),(48,.one (.d (.v (.bool (((s.arrs.getD j default).length:Int) != ((d.arrays.getD j default).size))))))] [([3],(k7+1,k7+1,.box [.d (.sl false 2 1 (List.map i64c (s.ints))),.d (.sl false 4 1 (List.map boolc (s.flags))),.d (.sl false 42 1 (List.map slc42 (s.arrs)))]))]) [⟨[3],some 40,[],[]⟩,⟨[40],some 41,[[3]],[]⟩,⟨[5],some 42,[],[]⟩,⟨[41,42],some 43,[],[]⟩,⟨[43],some 44,[],[]⟩,⟨[44],some 45,[],[]⟩,⟨[6],some 46,[],[]⟩,⟨[46],some 47,[[6]],[]⟩,⟨[45,47],some 48,[],[]⟩] (by kernel_rfl) (fun k16=>?_) ?_
    ·skip
     refine .fieldAddrP (.no Y) Y t46 Y Y t44 Y Y Y Y<|.load (.no Y) Y t44 Y Y (.ptr _ _ _ _ _ Y) Y Y Y Y<|.move (.no Y) Y Y Y Y<|.indexAddr (.no Y) Y (j) t44 Y t42 Y Y Y (.d _ _) Y Y Y (map_get (by omega)) Y Y<|.load (.no Y) Y t42 Y Y (.d _) Y Y Y Y<|.call (.no Y) Y [] [] (c_sizeN (s.arrs.getD j default)) Y Y Y Y Y (.dd .nil) Y Y (fun h=>absurd Y h) (.own [45,0] .nil) (.nil) Y Y Y (by simp) Y Y Y<|.fieldAddrP (.no Y) Y t78 Y Y t2 Y Y Y Y<|.load (.no Y) Y t2 Y Y (.ptr _ _ _ _ _ Y) Y Y Y Y<|.bin (.no Y) Y Y Y Y Y Y ?_
     exact .fin () (.of (.r Y) (.r Y))
    intro _
    refine .cond (t:=((s.arrs.getD j default).length:Int) != ((d.arrays.getD j default).size)) Y (fun c2=>?_) (fun c2=>?_)
    ·have c2:=(by simpa using c2:¬ (((s.arrs.getD j default).length:Int)=((d.arrays.getD j default).size)))
     refine .seq<|.rs fun k17=>.as Y<|.z<|.ret ?_
     exact fin0 (.inr Y) (.one (svB (show (false)=(Store.okIn d s) by (rw [Store.okIn_fail (j:=j) (by omega) c2]))) .nil) (.dd .nil) Y
    ·have c2:=(by simpa using c2:((s.arrs.getD j default).length:Int)=((d.arrays.getD j default).size))
     refine .skip<|.rs fun k19=>.bi Y<|.mv Y<|.z ?_
     exact .here (j+1) (.of (.cons Y (.cons Y (.cons Y (.cons (svI (show (IntKind.wrap .i64 ((j:Int)+1))=(((j+1):Int)) by first | rfl | omega | exact wrap_le (by omega) (by omega) | (rw [wrap_le (by omega) (by omega)]; omega))) .nil)))) (.r Y)) ⟨(show (j+1)≤d.arrays.length∧allTo (j+1) (fun i=>((s.arrs.getD i default).length:Int) == (d.arrays.getD i default).size)=true by exact ⟨by omega,allTo_step hI.2 (by simpa using c2)⟩),(show d.arrays.length - (j+1) < d.arrays.length - j by omega)⟩
   ·have c1:=of_decide_eq_false c1
    refine .exit<|.seq<|.rs fun k20=>.as Y<|.z<|.ret ?_
    exact fin0 (.inr Y) (.one (svB (show (true)=(Store.okIn d s) by (rw [Store.okIn_done (j:=j) (by omega) (by omega) hI.2]))) .nil) (.dd .nil) Y
end Go.Proofs

namespace Go.Proofs
open Go Go.Proofs Go.Ev

theorem c_l5One (b:Bool):Trip Tryd.prog 35 [(false,1)] ([.v (.bool (b))]) [(false,1)] [.v (.int .i64 (truthN b))] []:=by
 refine Trip.of Tryd.func35 (by decide) (c:=_) Y Y (Nat.le_of_ble_eq_true Y) Y (AftOk.nil _)<|.seq<|.rs fun k1=>.as Y<|.z<|.seq<|.seq<|.rs fun k2=>.mv Y ?_
 refine .z ?_
 refine .cond (t:=b) Y (fun c0=>?_) (fun c0=>?_)
 ·have c0:=c0
  refine .seq<|.rs fun k3=>.as Y<|.z<|.ret ?_
  exact fin0 (.inr Y) (.one (svI (show (1)=(truthN b) by (rw [c0]; rfl))) .nil) (.dd .nil) Y
 ·have c0:=c0
  refine .skip<|.seq<|.rs fun k5=>.as Y<|.z<|.ret ?_
  exact fin0 (.inr Y) (.one (svI (show (0)=(truthN b) by (rw [c0]; rfl))) .nil) (.dd .nil) Y
theorem c_truth (b:Bool):Trip Tryd.prog 87 [(false,1)] ([.v (.bool (b))]) [(false,1)] [.v (.int .i64 (truthN b))] []:=by
 refine Trip.of Tryd.func87 (by decide) (c:=_) Y Y (Nat.le_of_ble_eq_true Y) Y (AftOk.nil _)<|.seq<|.rs fun k1=>.as Y<|.z<|.seq<|.seq<|.rs fun k2=>.mv Y ?_
 refine .z ?_
 refine .cond (t:=b) Y (fun c0=>?_) (fun c0=>?_)
 ·have c0:=c0
  refine .seq<|.rs fun k3=>.as Y<|.z<|.ret ?_
  exact fin0 (.inr Y) (.one (svI (show (1)=(truthN b) by (rw [c0]; rfl))) .nil) (.dd .nil) Y
 ·have c0:=c0
  refine .skip<|.seq<|.rs fun k5=>.as Y<|.z<|.ret ?_
  exact fin0 (.inr Y) (.one (svI (show (0)=(truthN b) by (rw [c0]; rfl))) .nil) (.dd .nil) Y
end Go.Proofs

namespace Go.Proofs
open Go Go.Proofs Go.Ev

def Tok.c (x:Tok):List D:=[.v (.int .i64 (x.op)),.v (.int .i64 (x.n))]
theorem Tok.c_o (x:Tok):∀ d∈Tok.c x,Owned d:=by simp [Tok.c,Owned.v]
theorem Tok.c_e (x:Tok):(Tok.c x).map D.erase=Tok.c x:=by simp [Tok.c,D.erase_v]
def i40:TI:=⟨.st [(0,2),(1,2)],2,16,[.int .i64 0,.int .i64 0]⟩
theorem t40:TyOk Tryd.prog 40 i40:=⟨⟨_,Tryd.underlying40,rfl⟩,by kernel_rfl⟩
theorem z40:ZOk Tryd.prog 40 i40:=⟨t40,rfl⟩
theorem p40:Places Tryd.prog [(0,2),(1,2)] [(0,1),(1,1)]:=by unfold Places; kernel_rfl
def i41:TI:=⟨.sl 40,1,24,[.slice none 0 0]⟩
theorem t41:TyOk Tryd.prog 41 i41:=⟨Tryd.underlying41,by kernel_rfl⟩
theorem z41:ZOk Tryd.prog 41 i41:=⟨t41,rfl⟩
def i89:TI:=⟨.fn,1,8,[.nilFunc]⟩
theorem t89:TyOk Tryd.prog 89 i89:=⟨⟨_,_,_,Tryd.underlying89⟩,by kernel_rfl⟩
theorem z89:ZOk Tryd.prog 89 i89:=⟨t89,rfl⟩
theorem c_l3Takes (op:Int):Trip Tryd.prog 47 [(false,1)] ([.v (.int .i64 (op))]) [(false,1)] [.v (.int .i64 (takesN op))] []:=by
 refine Trip.of Tryd.func47 (by decide) (c:=_) Y Y (Nat.le_of_ble_eq_true Y) Y (AftOk.nil _)<|.seq<|.rs fun k1=>.as Y<|.z<|.seq<|.block<|.seq<|.rs fun k2=>?_
 refine .mv Y<|.bi Y<|.as Y<|.z ?_
 refine .cond (t:=decide (op≤5)) Y (fun c0=>?_) (fun c0=>?_)
 ·have c0:=of_decide_eq_true c0
  refine .seq<|.rs fun k3=>.as Y<|.z<|.ret ?_
  exact fin0 (.inr Y) (.one (svI (show (0)=(takesN op) by (unfold takesN; rw [if_pos c0]))) .nil) (.dd .nil) Y
 ·have c0:=of_decide_eq_false c0
  refine .seq ?_
  refine .reg (X:=Unit) (fun ζ=>.of [(6,.one (.d (.v (.bool ((decide (op≤7)||op == 19))))))] []) [⟨[0],some 7,[],[]⟩,⟨[7],some 8,[],[]⟩,⟨[8],some 9,[],[]⟩,⟨[9,0],some 10,[],[]⟩,⟨[9,10],some 11,[],[]⟩,⟨[9,11],some 12,[],[]⟩,⟨[12],some 6,[],[]⟩] (fun k5=>?_) ?_
  ·skip
   refine .move (.no Y) Y Y Y Y<|.bin (.no Y) Y Y Y Y Y Y<|.moveB (.no Y) Y Y Y Y fun b6 g3_2=>?_
   cases b6
   ·skip
    refine .move (.on Y Y Y Y Y) Y Y Y Y<|.bin (.on Y Y Y Y Y) Y Y Y Y Y Y<|.pick (.no Y) Y Y Y Y Y<|.assign (.no Y) Y Y Y Y ?_
    exact .fin () (.of (.cons (svB (show (op == 19)=((decide (op≤7)||op == 19)) by first | (simp only [g3_2,Bool.true_or,Bool.false_or,Bool.true_and,Bool.false_and,Bool.not_true,Bool.not_false]; done) | (simp [g3_2]; done) | (exfalso; simp_all; done))) .nil) .nil)
   ·skip
    refine .off Y Y Y Y Y Y Y<|.off Y Y Y Y Y Y Y<|.pick (.no Y) Y Y Y Y Y<|.assign (.no Y) Y Y Y Y ?_
    exact .fin () (.of (.cons (svB (show (true)=((decide (op≤7)||op == 19)) by first | (simp only [g3_2,Bool.true_or,Bool.false_or,Bool.true_and,Bool.false_and,Bool.not_true,Bool.not_false]; done) | (simp [g3_2]; done) | (exfalso; simp_all; done))) .nil) .nil)
  intro _
  refine .cond (t:=(decide (op≤7)||op == 19)) Y (fun c1=>?_) (fun c1=>?_)
  ·have c1:=(oT dT eT) c1
   refine .seq<|.rs fun k7=>.as Y<|.z<|.ret ?_
   exact fin0 (.inr Y) (.one (svI (show (1)=(takesN op) by (unfold takesN; rw [if_neg c0,if_pos c1]))) .nil) (.dd .nil) Y
  ·have c1:=(oF dF eF) c1
   refine .skip<|.seq<|.rs fun k9=>.as Y<|.z<|.ret ?_
   exact fin0 (.inr Y) (.one (svI (show (2)=(takesN op) by (unfold takesN; rw [if_neg c0,if_neg (by omega)]))) .nil) (.dd .nil) Y
theorem c_l3Kinds (op:Int):Trip Tryd.prog 48 [(false,1)] ([.v (.int .i64 (op))]) [(false,1),(false,1)] [.v (.int .i64 (kdT op)),.v (.int .i64 (kdL op))] []:=by
 refine Trip.of Tryd.func48 (by decide) (c:=_) Y Y (Nat.le_of_ble_eq_true Y) Y (AftOk.nil _)<|.seq<|.rs fun k1=>.as Y<|.as Y<|.z<|.seq<|.block<|.seq ?_
 refine .reg (X:=Unit) (fun ζ=>.of [(0,.one (.d (.v (.int .i64 (op))))),(4,.one (.d (.v (.bool (((op == 3||op == 4)||op == 5))))))] []) [⟨[0],some 5,[],[]⟩,⟨[5],some 6,[],[]⟩,⟨[6],some 7,[],[]⟩,⟨[7,0],some 8,[],[]⟩,⟨[7,8],some 9,[],[]⟩,⟨[7,9],some 10,[],[]⟩,⟨[10],some 11,[],[]⟩,⟨[11,0],some 12,[],[]⟩,⟨[11,12],some 13,[],[]⟩,⟨[11,13],some 14,[],[]⟩,⟨[14],some 4,[],[]⟩] (fun k2=>?_) ?_
 ·skip
  refine .move (.no Y) Y Y Y Y<|.bin (.no Y) Y Y Y Y Y Y<|.moveB (.no Y) Y Y Y Y fun b3 g1_2=>?_
  cases b3
  ·skip
   refine .move (.on Y Y Y Y Y) Y Y Y Y<|.bin (.on Y Y Y Y Y) Y Y Y Y Y Y<|.pick (.no Y) Y Y Y Y Y<|.moveB (.no Y) Y Y Y Y fun b4 g1_6=>?_
   cases b4
   ·skip
    refine .move (.on Y Y Y Y Y) Y Y Y Y<|.bin (.on Y Y Y Y Y) Y Y Y Y Y Y<|.pick (.no Y) Y Y Y Y Y<|.assign (.no Y) Y Y Y Y ?_
    exact .fin () (.of (.cons Y (.cons (svB (show (op == 5)=(((op == 3||op == 4)||op == 5)) by first | (simp only [g1_2,g1_6,Bool.true_or,Bool.false_or,Bool.true_and,Bool.false_and,Bool.not_true,Bool.not_false]; done) | (simp [g1_2,g1_6]; done) | (exfalso; simp_all; done))) .nil)) .nil)
   ·skip
    refine .off Y Y Y Y Y Y Y<|.off Y Y Y Y Y Y Y<|.pick (.no Y) Y Y Y Y Y<|.assign (.no Y) Y Y Y Y ?_
    exact .fin () (.of (.cons Y (.cons (svB (show (true)=(((op == 3||op == 4)||op == 5)) by first | (simp only [g1_2,g1_6,Bool.true_or,Bool.false_or,Bool.true_and,Bool.false_and,Bool.not_true,Bool.not_false]; done) | (simp [g1_2,g1_6]; done) | (exfalso; simp_all; done))) .nil)) .nil)
  ·skip
   refine .off Y Y Y Y Y Y Y<|.off Y Y Y Y Y Y Y<|.pick (.no Y) Y Y Y Y Y<|.move (.no Y) Y Y Y Y<|.off Y Y Y Y Y Y Y<|.off Y Y Y Y Y Y Y<|.pick (.no Y) Y Y Y Y Y<|.assign (.no Y) Y Y Y Y ?_
   exact .fin () (.of (.cons Y (.cons (svB (show (true)=(((op == 3||op == 4)||op == 5)) by first | (simp only [g1_2,Bool.true_or,Bool.false_or,Bool.true_and,Bool.false_and,Bool.not_true,Bool.not_false]; done) | (simp [g1_2]; done) | (exfalso; simp_all; done))) .nil)) .nil)
 intro _
 refine .cond (t:=((op == 3||op == 4)||op == 5)) Y (fun c0=>?_) (fun c0=>?_)
 ·have c0:=(oT (oT eT eT) eT) c0
  refine .seq<|.rs fun k5=>.as Y<|.as Y<|.z<|.ret ?_
  exact fin0 (.inr Y) (.one (svI (show (0)=(kdT op) by (first | (unfold kdT; rw [if_pos (by omega)]) | (unfold kdL; rw [if_pos (by omega)])))) (.one (svI (show (2)=(kdL op) by (first | (unfold kdT; rw [if_pos (by omega)]) | (unfold kdL; rw [if_pos (by omega)])))) .nil)) (.dd (.dd .nil)) Y
 ·have c0:=(oF (oF eF eF) eF) c0
  refine .seq<|.rs fun k8=>.mv Y<|.bi Y<|.as Y<|.z ?_
  refine .cond (t:=decide (op≤12)) Y (fun c1=>?_) (fun c1=>?_)
  ·have c1:=of_decide_eq_true c1
   refine .seq<|.rs fun k9=>.as Y<|.as Y<|.z<|.ret ?_
   exact fin0 (.inr Y) (.one (svI (show (1)=(kdT op) by (first | (unfold kdT; rw [if_neg (by omega),if_pos c1]) | (unfold kdL; rw [if_neg (by omega),if_pos c1])))) (.one (svI (show (1)=(kdL op) by (first | (unfold kdT; rw [if_neg (by omega),if_pos c1]) | (unfold kdL; rw [if_neg (by omega),if_pos c1])))) .nil)) (.dd (.dd .nil)) Y
  ·have c1:=of_decide_eq_false c1
   refine .seq<|.rs fun k12=>.mv Y<|.bi Y<|.as Y<|.z ?_
   refine .cond (t:=decide (op≤18)) Y (fun c2=>?_) (fun c2=>?_)
   ·have c2:=of_decide_eq_true c2
    refine .seq<|.rs fun k13=>.as Y<|.as Y<|.z<|.ret ?_
    exact fin0 (.inr Y) (.one (svI (show (1)=(kdT op) by (first | (unfold kdT; rw [if_neg (by omega),if_neg c1,if_pos c2]) | (unfold kdL; rw [if_neg (by omega),if_neg c1,if_pos c2])))) (.one (svI (show (2)=(kdL op) by (first | (unfold kdT; rw [if_neg (by omega),if_neg c1,if_pos c2]) | (unfold kdL; rw [if_neg (by omega),if_neg c1,if_pos c2])))) .nil)) (.dd (.dd .nil)) Y
   ·have c2:=of_decide_eq_false c2
    refine .skip<|.seq<|.rs fun k16=>.as Y<|.as Y<|.z<|.ret ?_
    exact fin0 (.inr Y) (.one (svI (show (2)=(kdT op) by (first | (unfold kdT; rw [if_neg (by omega),if_neg c1,if_neg c2]) | (unfold kdL; rw [if_neg (by omega),if_neg c1,if_neg c2])))) (.one (svI (show (2)=(kdL op) by (first | (unfold kdT; rw [if_neg (by omega),if_neg c1,if_neg c2]) | (unfold kdL; rw [if_neg (by omega),if_neg c1,if_neg c2])))) .nil)) (.dd (.dd .nil)) Y
theorem c_l3Tok (d:Decl) (t:Tok):Trip Tryd.prog 49 [(true,3),(true,2)] (Decl.c36 d++Tok.c t) [(false,1)] [.v (.bool (Tok.ok d t))] []:=by
 refine Trip.of Tryd.func49 (by decide) (c:=_) Y Y (Nat.le_of_ble_eq_true Y) Y (AftOk.nil _)<|.sla (t:=0) 0 Y Y fun hs1l=>.sla (t:=0) 1 Y Y fun hs2l=>.sla (t:=0) 2 Y Y fun hs3l=>.seq<|.rs fun k4=>.g (fun _ τ=>⟨_,.box (.no Y) Y Y Y Y Y τ⟩)<|.g (fun _ τ=>⟨_,.box (.no Y) Y Y Y Y Y τ⟩)<|.as Y ?_
 refine .z<|.seq<|.seq<|.rs fun k5=>.fp t40 t2 Y<|.ld t2 Y (.ptr _ _ _ _ _ Y) Y<|.z<|.block<|.seq ?_
 refine .rs fun k6=>.bi Y<|.as Y<|.z ?_
 refine .cond (t:=t.op == 1) Y (fun c0=>?_) (fun c0=>?_)
 ·have c0:=(by simpa using c0:t.op=1)
  refine .seq<|.rs fun k7=>.fp t40 t2 Y<|.ld t2 Y (.ptr _ _ _ _ _ Y) Y<|.c0 (c_l1In t.n 0 999999999999999999) Y (.dd (.dd (.dd .nil))) (.own [11,0] .nil) Y<|.as Y<|.z<|.ret ?_
  exact fin0 (.inr Y) (.one (svB (show (inR t.n 0 999999999999999999)=(Tok.ok d t) by (unfold Tok.ok; rw [if_pos c0]))) .nil) (.dd .nil) Y
 ·have c0:=(by simpa using c0:¬ (t.op=1))
  refine .seq<|.rs fun k9=>.bi Y<|.as Y<|.z ?_
  refine .cond (t:=t.op == 2) Y (fun c1=>?_) (fun c1=>?_)
  ·have c1:=(by simpa using c1:t.op=2)
   refine .seq<|.rs fun k10=>.fp t40 t2 Y<|.ld t2 Y (.ptr _ _ _ _ _ Y) Y<|.fp t36 t33 Y<|.ld t33 Y (.ptr _ _ _ _ _ Y) Y<|.g (fun _ τ=>⟨_,.len (.no Y) Y (z:=(d.vars.length:Int)) t33 Y Y Y (.d _ _) (map_len _ _) Y τ⟩)<|.g (fun _ τ=>⟨_,.binN (.no Y) Y (show IntKind.wrap .i64 ((d.vars.length:Int) - 1)=(d.vars.length:Int) - 1 by (exact wrap_le (by omega) (by omega))) Y Y Y Y Y τ⟩)<|.c0 (c_l1In t.n 0 ((d.vars.length:Int) - 1)) Y (.dd (.dd (.dd .nil))) (.own [20,0] .nil) Y ?_
   refine .as Y<|.z<|.ret ?_
   exact fin0 (.inr Y) (.one (svB (show (inR t.n 0 ((d.vars.length:Int) - 1))=(Tok.ok d t) by (unfold Tok.ok; rw [if_neg c0,if_pos c1]))) .nil) (.dd .nil) Y
  ·have c1:=(by simpa using c1:¬ (t.op=2))
   refine .seq<|.rs fun k12=>.bi Y<|.as Y<|.z ?_
   refine .cond (t:=t.op == 3) Y (fun c2=>?_) (fun c2=>?_)
   ·have c2:=(by simpa using c2:t.op=3)
    refine .seq<|.rs fun k13=>.fp t40 t2 Y<|.ld t2 Y (.ptr _ _ _ _ _ Y) Y<|.fp t36 t33 Y<|.ld t33 Y (.ptr _ _ _ _ _ Y) Y<|.g (fun _ τ=>⟨_,.len (.no Y) Y (z:=(d.flags.length:Int)) t33 Y Y Y (.d _ _) (map_len _ _) Y τ⟩)<|.g (fun _ τ=>⟨_,.binN (.no Y) Y (show IntKind.wrap .i64 ((d.flags.length:Int) - 1)=(d.flags.length:Int) - 1 by (exact wrap_le (by omega) (by omega))) Y Y Y Y Y τ⟩)<|.c0 (c_l1In t.n 0 ((d.flags.length:Int) - 1)) Y (.dd (.dd (.dd .nil))) (.own [29,0] .nil) Y ?_
    refine .as Y<|.z<|.ret ?_
    exact fin0 (.inr Y) (.one (svB (show (inR t.n 0 ((d.flags.length:Int) - 1))=(Tok.ok d t) by (unfold Tok.ok; rw [if_neg c0,if_neg c1,if_pos c2]))) .nil) (.dd .nil) Y
   ·have c2:=(by simpa using c2:¬ (t.op=3))
    refine .seq<|.rs fun k15=>.bi Y<|.as Y<|.z ?_
    refine .cond (t:=t.op == 6) Y (fun c3=>?_) (fun c3=>?_)
    ·have c3:=(by simpa using c3:t.op=6)
     refine .seq<|.rs fun k16=>.fp t40 t2 Y<|.ld t2 Y (.ptr _ _ _ _ _ Y) Y<|.fp t36 t34 Y<|.ld t34 Y (.ptr _ _ _ _ _ Y) Y<|.g (fun _ τ=>⟨_,.len (.no Y) Y (z:=(d.arrays.length:Int)) t34 Y Y Y (.d _ _) (map_len _ _) Y τ⟩)<|.g (fun _ τ=>⟨_,.binN (.no Y) Y (show IntKind.wrap .i64 ((d.arrays.length:Int) - 1)=(d.arrays.length:Int) - 1 by (exact wrap_le (by omega) (by omega))) Y Y Y Y Y τ⟩)<|.c0 (c_l1In t.n 0 ((d.arrays.length:Int) - 1)) Y (.dd (.dd (.dd .nil))) (.own [38,0] .nil) Y ?_
     refine .as Y<|.z<|.ret ?_
     exact fin0 (.inr Y) (.one (svB (show (inR t.n 0 ((d.arrays.length:Int) - 1))=(Tok.ok d t) by (unfold Tok.ok; rw [if_neg c0,if_neg c1,if_neg c2,if_pos c3]))) .nil) (.dd .nil) Y
    ·have c3:=(by simpa using c3:¬ (t.op=6))
     refine .skip<|.seq ?_
     refine .reg (X:=Unit) (fun ζ=>.of [(4,.one (.d (.v (.bool ((inR t.op 4 21&&t.n == 0))))))] []) [⟨[3],some 39,[],[]⟩,⟨[39],some 40,[[3]],[]⟩,⟨[40],some 41,[],[]⟩,⟨[41],some 42,[],[]⟩,⟨[42,3],some 43,[],[]⟩,⟨[42,43],some 44,[[3]],[]⟩,⟨[42,44],some 45,[],[]⟩,⟨[42,45],some 46,[],[]⟩,⟨[46],some 4,[],[]⟩] (fun k18=>?_) ?_
     ·skip
      refine .fieldAddrP (.no Y) Y t40 Y Y t2 Y Y Y Y<|.load (.no Y) Y t2 Y Y (.ptr _ _ _ _ _ Y) Y Y Y Y<|.call (.no Y) Y [] [] (c_l1In t.op 4 21) Y Y Y Y Y (.dd (.dd (.dd .nil))) Y Y (fun h=>absurd Y h) (.own [41,0] .nil) (.nil) Y Y Y (by simp) Y Y Y<|.moveB (.no Y) Y Y Y Y fun b19 g10_3=>?_
      cases b19
      ·skip
       refine .off Y Y Y Y Y Y Y<|.off Y Y Y Y Y Y Y<|.off Y Y Y Y Y Y Y<|.pick (.no Y) Y Y Y Y Y<|.assign (.no Y) Y Y Y Y ?_
       exact .fin () (.of (.cons (svB (show (false)=((inR t.op 4 21&&t.n == 0)) by first | (simp only [g10_3,Bool.true_or,Bool.false_or,Bool.true_and,Bool.false_and,Bool.not_true,Bool.not_false]; done) | (simp [g10_3]; done) | (exfalso; simp_all; done))) .nil) .nil)
      ·skip
       refine .fieldAddrP (.on Y Y Y Y Y) Y t40 Y Y t2 Y Y Y Y<|.load (.on Y Y Y Y Y) Y t2 Y Y (.ptr _ _ _ _ _ Y) Y Y Y Y<|.bin (.on Y Y Y Y Y) Y Y Y Y Y Y<|.pick (.no Y) Y Y Y Y Y<|.assign (.no Y) Y Y Y Y ?_
       exact .fin () (.of (.cons (svB (show (t.n == 0)=((inR t.op 4 21&&t.n == 0)) by first | (simp only [g10_3,Bool.true_or,Bool.false_or,Bool.true_and,Bool.false_and,Bool.not_true,Bool.not_false]; done) | (simp [g10_3]; done) | (exfalso; simp_all; done))) .nil) .nil)
     intro _
     refine .ret ?_
     exact fin0 (.inr Y) (.one (svB (show ((inR t.op 4 21&&t.n == 0))=(Tok.ok d t) by (unfold Tok.ok; rw [if_neg c0,if_neg c1,if_neg c2,if_neg c3]))) .nil) (.dd .nil) Y
theorem c_sExprOk (d:Decl) (l:List Tok) (hs:∀ x∈Decl.names d,x.size≤9223372036854775807) (hd:d.vars.length≤1048576∧d.flags.length≤1048576∧d.arrays.length≤1048576):Trip Tryd.prog 17 [(true,3),(false,1)] (Decl.c36 d++[.sl false 40 2 (List.map Tok.c (l))]) [(false,1)] [.v (.int .i64 (Expr.kindIn d l))] []:=by
 refine Trip.of Tryd.func17 (by decide) (c:=_) Y Y (Nat.le_of_ble_eq_true Y) Y (AftOk.nil _)<|.sla (t:=0) 0 Y Y fun hs1l=>.sla (t:=0) 1 Y Y fun hs2l=>.sla (t:=0) 2 Y Y fun hs3l=>.sl (t:=1) Y fun hs4l=>.seq<|.rs fun k5=>.g (fun _ τ=>⟨_,.box (.no Y) Y Y Y Y Y τ⟩)<|.as Y ?_
 refine .z<|.seq<|.seq ?_
 refine .reg (X:=Unit) (fun ζ=>.of [(1,.one (.d (.sl false 40 2 (List.map Tok.c (l))))),(2,.one (.ptr [2] (k5) 0)),(18,.one (.d (.v (.bool ((!(Decl.ok d)||decide ((l.length:Int) > 40)))))))] [([2],(k5,k5,.box [.d (.sl false 9 1 (List.map strc (d.vars))),.d (.sl false 9 1 (List.map strc (d.flags))),.d (.sl false 78 2 (List.map Arr.c (d.arrays)))]))]) [⟨[2],some 11,[[2]],[]⟩,⟨[11],some 12,[],[]⟩,⟨[12],some 13,[],[]⟩,⟨[13],some 14,[],[]⟩,⟨[14,1],some 15,[],[]⟩,⟨[14,15],some 16,[],[]⟩,⟨[14,16],some 17,[],[]⟩,⟨[14,17],some 18,[],[]⟩] (fun k6=>?_) ?_
 ·skip
  refine .load (.no Y) Y t36 Y Y (.ptr _ _ _ _ _ Y) Y Y Y Y<|.call (.no Y) Y [] [] (c_sDeclOk d (by assumption) (by assumption)) Y Y Y Y Y (.dd (.dd (.dd .nil))) Y Y (fun h=>absurd Y h) (.own [12,0] .nil) (.nil) Y Y Y (by simp) Y Y Y<|.un (.no Y) Y Y Y Y Y<|.moveB (.no Y) Y Y Y Y fun b7 g1_3=>?_
  cases b7
  ·skip
   refine .move (.on Y Y Y Y Y) Y Y Y Y<|.len (.on Y Y Y Y Y) Y (z:=(l.length:Int)) t41 Y Y Y (.d _ _) (map_len _ _) Y<|.bin (.on Y Y Y Y Y) Y Y Y Y Y Y<|.pick (.no Y) Y Y Y Y Y ?_
   exact .fin () (.of (.cons Y (.cons Y (.cons (svB (show (decide ((l.length:Int) > 40))=((!(Decl.ok d)||decide ((l.length:Int) > 40))) by first | (simp only [g1_3,Bool.true_or,Bool.false_or,Bool.true_and,Bool.false_and,Bool.not_true,Bool.not_false]; done) | (simp [g1_3]; done) | (exfalso; simp_all; done))) .nil))) (.r Y))
  ·skip
   refine .off Y Y Y Y Y Y Y<|.off Y Y Y Y Y Y Y<|.off Y Y Y Y Y Y Y<|.pick (.no Y) Y Y Y Y Y ?_
   exact .fin () (.of (.cons Y (.cons Y (.cons (svB (show (true)=((!(Decl.ok d)||decide ((l.length:Int) > 40))) by first | (simp only [g1_3,Bool.true_or,Bool.false_or,Bool.true_and,Bool.false_and,Bool.not_true,Bool.not_false]; done) | (simp [g1_3]; done) | (exfalso; simp_all; done))) .nil))) (.r Y))
 intro _
 refine .cond (t:=(!(Decl.ok d)||decide ((l.length:Int) > 40))) Y (fun c0=>?_) (fun c0=>?_)
 ·have c0:=(oT (nT id) dT) c0
  have hz:Expr.kindIn d l=0:=by unfold Expr.kindIn; rcases c0 with h | h<;>first | (rw [h]; rfl) | (rw [kind_long (by omega)]; simp)
  refine .seq<|.rs fun k8=>.as Y<|.z<|.ret ?_
  exact fin0 (.inr Y) (.one (svI (show (0)=(Expr.kindIn d l) by (exact hz.symm))) .nil) (.dd .nil) Y
 ·have c0:=(oF (nF id) dF) c0
  have hz:Expr.kindIn d l=Expr.kind d l:=by unfold Expr.kindIn; rw [if_pos c0.1]
  refine .skip<|.seq<|.rs fun k10=>.g (fun _ τ=>⟨_,.buildSlice (.no Y) Y (els:=[]) t42 Y z2 Y Y Y Y Y Y Y Y (by simp [i2]) .nil Y Y Y τ⟩)<|.as Y<|.z<|.seq<|.seq<|.rs fun k11=>?_
  refine .as Y<|.z<|.block ?_
  refine .loop (X:=Nat × List Int × Nat × Nat) (fun ζ=>.of [(1,.one (.d (.sl false 40 2 (List.map Tok.c (l))))),(2,.one (.ptr [2] (k5) 0)),(5,.one (.ref [19] (ζ.2.2.1))),(6,.one (.d (.v (.int .i64 ((ζ.1:Int))))))] [([2],(k5,k5,.box [.d (.sl false 9 1 (List.map strc (d.vars))),.d (.sl false 9 1 (List.map strc (d.flags))),.d (.sl false 78 2 (List.map Arr.c (d.arrays)))])),([19],(ζ.2.2.1,ζ.2.2.2,.row 2 1 (List.map i64c (ζ.2.1))))]) (fun ζ=>ζ.1≤l.length∧kdS d l ζ.1=some ζ.2.1) (fun ζ=>l.length - ζ.1) ?_ ?_
  ·skip
   exact .here (0,[],k10,k10) (.of (.cons Y (.cons Y (.cons Y (.cons (svI (show (0)=((0:Int)) by first | rfl | omega | exact wrap_le (by omega) (by omega) | (rw [wrap_le (by omega) (by omega)]; omega))) .nil)))) (.cons Y (.cons (rowE (show []=List.map i64c ([]) by first | with_reducible rfl | rfl | skip)) .nil))) (show 0≤l.length∧kdS d l 0=some [] by exact ⟨by omega,rfl⟩)
  ·rintro ⟨j,p,q12,q13⟩ hI
   have hI:j≤l.length∧kdS d l j=some p:=hI
   have hp9:=kdS_len hI.2
   have ht9:=takesN_bnd (l.getD j default).op
   dsimp only
   refine .seq<|.seq<|.rs fun k14=>.mv Y<|.mv Y<|.g (fun _ τ=>⟨_,.len (.no Y) Y (z:=(l.length:Int)) t41 Y Y Y (.d _ _) (map_len _ _) Y τ⟩)<|.bi Y<|.z ?_
   refine .cond (t:=decide ((j:Int) < (l.length:Int))) Y (fun c1=>?_) (fun c1=>?_)
   ·have c1:=of_decide_eq_true c1
    refine .skip<|.seq<|.block<|.seq<|.rs fun k15=>.mv Y<|.mv Y<|.g (fun _ τ=>⟨_,.indexAddr (.no Y) Y (j) t41 Y t40 Y Y Y (.d _ _) Y Y Y (map_get (by first | omega | (have h9:=hI; omega))) Y Y τ⟩)<|.g (fun _ τ=>⟨_,.fieldAddr (.no Y) Y t40 Y Y t2 Y Y Y Y [] (by simp) (by intro _ _ _ h; cases h) Y Y τ⟩) ?_
    refine .ld t2 Y (.d _) Y<|.c0 (c_l3Takes ((l.getD j default).op)) Y (.dd .nil) (.own [31,0] .nil) Y<|.as Y<|.z<|.seq<|.rs fun k16=>.mv Y<|.mv Y<|.g (fun _ τ=>⟨_,.indexAddr (.no Y) Y (j) t41 Y t40 Y Y Y (.d _ _) Y Y Y (map_get (by first | omega | (have h9:=hI; omega))) Y Y τ⟩) ?_
    refine .g (fun _ τ=>⟨_,.fieldAddr (.no Y) Y t40 Y Y t2 Y Y Y Y [] (by simp) (by intro _ _ _ h; cases h) Y Y τ⟩)<|.ld t2 Y (.d _) Y<|.c0 (c_l3Kinds ((l.getD j default).op)) Y (.dd .nil) (.own [38,0] (.own [38,1] .nil)) Y<|.g (fun _ τ=>⟨_,.move (.no Y) Y Y Y Y τ⟩)<|.g (fun _ τ=>⟨_,.extract (.no Y) Y Y Y Y Y τ⟩)<|.g (fun _ τ=>⟨_,.extract (.no Y) Y Y Y Y Y τ⟩)<|.as Y<|.as Y<|.z ?_
    refine .seq<|.seq ?_
    refine .regD (X:=Unit) (by kernel_rfl) (fun ζ=>.of [(1,.one (.d (.sl false 40 2 (List.map Tok.c (l))))),(2,.one (.ptr [2] (k5) 0)),(5,.one (.ref [19] (q12))),(6,.one (.d (.v (.int .i64 ((j:Int)))))),(7,.one (.d (.v (.int .i64 (takesN ((l.getD j default).op)))))),(8,.one (.d (.v (.int .i64 (kdT ((l.getD j default).op)))))),(9,.one (.d (.v (.int .i64 (kdL ((l.getD j default).op)))))),(53,.one (.d (.v (.bool ((!(Tok.ok d (l.getD j default))||decide ((p.length:Int) < (takesN ((l.getD j default).op)))))))))] [([2],(k5,k5,.box [.d (.sl false 9 1 (List.map strc (d.vars))),.d (.sl false 9 1 (List.map strc (d.flags))),.d (.sl false 78 2 (List.map Arr.c (d.arrays)))])),([19],(q12,q13,.row 2 1 (List.map i64c (p))))]) [⟨[2],some 41,[[2]],[]⟩,⟨[1],some 42,[],[]⟩,⟨[6],some 43,[],[]⟩,⟨[42,43],some 44,[],[]⟩,⟨[44],some 45,[],[]⟩,⟨[41,45],some 46,[],[]⟩,⟨[46],some 47,[],[]⟩,⟨[47],some 48,[],[]⟩,⟨[48,5],some 49,[],[]⟩,⟨[48,49],some 50,[[19]],[]⟩,⟨[48,7],some 51,[],[]⟩,⟨[48,50,51],some 52,[],[]⟩,⟨[48,52],some 53,[],[]⟩] (by kernel_rfl) (fun k17=>?_) ?_
    ·skip
     refine .load (.no Y) Y t36 Y Y (.ptr _ _ _ _ _ Y) Y Y Y Y<|.move (.no Y) Y Y Y Y<|.move (.no Y) Y Y Y Y<|.indexAddr (.no Y) Y (j) t41 Y t40 Y Y Y (.d _ _) Y Y Y (map_get (by first | omega | (have h9:=hI; omega))) Y Y<|.load (.no Y) Y t40 Y Y (.d _) Y Y Y Y<|.call (.no Y) Y [] [] (c_l3Tok d (l.getD j default)) Y Y Y Y Y (.dd (.dd (.dd (.dd (.dd .nil))))) Y Y (fun h=>absurd Y h) (.own [46,0] .nil) (.nil) Y Y Y (by simp) Y Y Y<|.un (.no Y) Y Y Y Y Y<|.moveB (.no Y) Y Y Y Y fun b18 g9_7=>?_
     cases b18
     ·skip
      refine .move (.on Y Y Y Y Y) Y Y Y Y<|.len (.on Y Y Y Y Y) Y (z:=(p.length:Int)) t42 Y Y Y (.ref _ _ _ _ _ Y) (map_len _ _) Y<|.move (.on Y Y Y Y Y) Y Y Y Y<|.bin (.on Y Y Y Y Y) Y Y Y Y Y Y<|.pick (.no Y) Y Y Y Y Y ?_
      exact .fin () (.of (.cons Y (.cons Y (.cons Y (.cons Y (.cons Y (.cons Y (.cons Y (.cons (svB (show (decide ((p.length:Int) < (takesN ((l.getD j default).op))))=((!(Tok.ok d (l.getD j default))||decide ((p.length:Int) < (takesN ((l.getD j default).op))))) by first | (simp only [g9_7,Bool.true_or,Bool.false_or,Bool.true_and,Bool.false_and,Bool.not_true,Bool.not_false]; done) | (simp [g9_7]; done) | (exfalso; simp_all; done))) .nil)))))))) (.r Y))
     ·skip
      refine .off Y Y Y Y Y Y Y<|.off Y Y Y Y Y Y Y<|.off Y Y Y Y Y Y Y<|.off Y Y Y Y Y Y Y<|.pick (.no Y) Y Y Y Y Y ?_
      exact .fin () (.of (.cons Y (.cons Y (.cons Y (.cons Y (.cons Y (.cons Y (.cons Y (.cons (svB (show (true)=((!(Tok.ok d (l.getD j default))||decide ((p.length:Int) < (takesN ((l.getD j default).op))))) by first | (simp only [g9_7,Bool.true_or,Bool.false_or,Bool.true_and,Bool.false_and,Bool.not_true,Bool.not_false]; done) | (simp [g9_7]; done) | (exfalso; simp_all; done))) .nil)))))))) (.r Y))
    intro _
    refine .cond (t:=(!(Tok.ok d (l.getD j default))||decide ((p.length:Int) < (takesN ((l.getD j default).op))))) Y (fun c2=>?_) (fun c2=>?_)
    ·have c2:=(oT (nT id) dT) c2
     have hb:kdS d l (j+1)=none:=by rcases c2 with h | h; exact kdS_bad hI.2 h; by_cases ho:Tok.ok d (l.getD j default)=true; exact (kdS_go hI.2 ho).trans (kst_less (Tok.ok_op ho) h); exact kdS_bad hI.2 (by simpa using ho)
     refine .seq<|.rs fun k19=>.as Y<|.z<|.ret ?_
     exact fin0 (.inr Y) (.one (svI (show (0)=(Expr.kindIn d l) by (rw [hz,kind_none (by omega) hb]))) .nil) (.dd .nil) Y
    ·have c2:=(oF (nF id) dF) c2
     have ho:=Tok.ok_op c2.1
     refine .skip<|.seq<|.seq<|.rs fun k21=>.mv Y<|.g (fun _ τ=>⟨_,.len (.no Y) Y (z:=(p.length:Int)) t42 Y Y Y (.ref _ _ _ _ _ Y) (map_len _ _) Y τ⟩)<|.mv Y<|.g (fun _ τ=>⟨_,.binN (.no Y) Y (show IntKind.wrap .i64 ((p.length:Int) - (takesN ((l.getD j default).op)))=(p.length:Int) - takesN (l.getD j default).op by (exact wrap_le (by omega) (by omega))) Y Y Y Y Y τ⟩)<|.as Y ?_
     refine .z<|.block ?_
     refine .loop (X:=Nat) (fun ζ=>.of [(1,.one (.d (.sl false 40 2 (List.map Tok.c (l))))),(2,.one (.ptr [2] (k5) 0)),(5,.one (.ref [19] (q12))),(6,.one (.d (.v (.int .i64 ((j:Int)))))),(7,.one (.d (.v (.int .i64 (takesN ((l.getD j default).op)))))),(8,.one (.d (.v (.int .i64 (kdT ((l.getD j default).op)))))),(9,.one (.d (.v (.int .i64 (kdL ((l.getD j default).op)))))),(10,.one (.d (.v (.int .i64 ((p.length:Int) - takesN (l.getD j default).op+(ζ:Int))))))] [([2],(k5,k5,.box [.d (.sl false 9 1 (List.map strc (d.vars))),.d (.sl false 9 1 (List.map strc (d.flags))),.d (.sl false 78 2 (List.map Arr.c (d.arrays)))])),([19],(q12,q13,.row 2 1 (List.map i64c (p))))]) (fun ζ=>(ζ:Int)≤takesN (l.getD j default).op∧(∀ i:Nat,(p.length:Int) - takesN (l.getD j default).op≤(i:Int)→(i:Int) < (p.length:Int) - takesN (l.getD j default).op+(ζ:Int)→p.getD i default=kdT (l.getD j default).op)) (fun ζ=>2 - ζ) ?_ ?_
     ·skip
      exact .here 0 (.of (.cons Y (.cons Y (.cons Y (.cons Y (.cons Y (.cons Y (.cons Y (.cons (svI (show ((p.length:Int) - takesN (l.getD j default).op)=((p.length:Int) - takesN (l.getD j default).op+(0:Int)) by first | rfl | omega | exact wrap_le (by omega) (by omega) | (rw [wrap_le (by omega) (by omega)]; omega))) .nil)))))))) (.r Y)) (show (0:Int)≤takesN (l.getD j default).op∧(∀ i:Nat,(p.length:Int) - takesN (l.getD j default).op≤(i:Int)→(i:Int) < (p.length:Int) - takesN (l.getD j default).op+(0:Int)→p.getD i default=kdT (l.getD j default).op) by exact ⟨by omega,fun i h1 h2=>by omega⟩)
     ·rintro u hI
      have hI:(u:Int)≤takesN (l.getD j default).op∧(∀ i:Nat,(p.length:Int) - takesN (l.getD j default).op≤(i:Int)→(i:Int) < (p.length:Int) - takesN (l.getD j default).op+(u:Int)→p.getD i default=kdT (l.getD j default).op):=hI
      have hI1:=‹j≤l.length∧_›
      refine .seq<|.seq<|.rs fun k22=>.mv Y<|.mv Y<|.g (fun _ τ=>⟨_,.len (.no Y) Y (z:=(p.length:Int)) t42 Y Y Y (.ref _ _ _ _ _ Y) (map_len _ _) Y τ⟩)<|.bi Y<|.z ?_
      refine .cond (t:=decide (((p.length:Int) - takesN (l.getD j default).op+(u:Int)) < (p.length:Int))) Y (fun c3=>?_) (fun c3=>?_)
      ·have c3:=of_decide_eq_true c3
       refine .skip<|.seq<|.block<|.seq<|.rs fun k23=>.mv Y<|.mv Y<|.g (fun _ τ=>⟨_,.indexAddr (.no Y) Y (((p.length:Int) - takesN (l.getD j default).op+(u:Int)).toNat) t42 Y t2 Y Y Y (.ref _ _ _ _ _ Y) Y Y (by omega) (map_get (by first | omega | (have h9:=hI; omega))) Y Y τ⟩)<|.ld t2 Y (.eptr _ _ _ _ _ _ _ _ _ Y (map_get (by first | omega | (have h9:=hI; omega)))) Y ?_
       refine .mv Y<|.bi Y<|.z ?_
       refine .cond (t:=(p.getD (((p.length:Int) - takesN (l.getD j default).op+(u:Int)).toNat) default) != (kdT ((l.getD j default).op))) Y (fun c4=>?_) (fun c4=>?_)
       ·have c4:=(by simpa using c4:¬ ((p.getD (((p.length:Int) - takesN (l.getD j default).op+(u:Int)).toNat) default)=(kdT ((l.getD j default).op))))
        have hb:kdS d l (j+1)=none:=(kdS_go hI1.2 c2.1).trans (kst_wrong ho c2.2 (by omega) (by omega) c4)
        refine .seq<|.rs fun k24=>.as Y<|.z<|.ret ?_
        exact fin0 (.inr Y) (.one (svI (show (0)=(Expr.kindIn d l) by (rw [hz,kind_none (by omega) hb]))) .nil) (.dd .nil) Y
       ·have c4:=(by simpa using c4:(p.getD (((p.length:Int) - takesN (l.getD j default).op+(u:Int)).toNat) default)=(kdT ((l.getD j default).op)))
        refine .skip<|.rs fun k26=>.mv Y<|.bi Y<|.as Y<|.z ?_
        exact .here (u+1) (.of (.cons Y (.cons Y (.cons Y (.cons Y (.cons Y (.cons Y (.cons Y (.cons (svI (show (IntKind.wrap .i64 (((p.length:Int) - takesN (l.getD j default).op+(u:Int))+1))=((p.length:Int) - takesN (l.getD j default).op+((u+1):Int)) by first | rfl | omega | exact wrap_le (by omega) (by omega) | (rw [wrap_le (by omega) (by omega)]; omega))) .nil)))))))) (.r Y)) ⟨(show ((u+1):Int)≤takesN (l.getD j default).op∧(∀ i:Nat,(p.length:Int) - takesN (l.getD j default).op≤(i:Int)→(i:Int) < (p.length:Int) - takesN (l.getD j default).op+((u+1):Int)→p.getD i default=kdT (l.getD j default).op) by exact ⟨by omega,kd_next hI.2 c4⟩),(show 2 - (u+1) < 2 - u by omega)⟩
      ·have c3:=of_decide_eq_false c3
       refine .exit<|.rs fun k27=>.mv Y<|.mv Y<|.g (fun _ τ=>⟨_,.len (.no Y) Y (z:=(p.length:Int)) t42 Y Y Y (.ref _ _ _ _ _ Y) (map_len _ _) Y τ⟩)<|.mv Y<|.g (fun _ τ=>⟨_,.binN (.no Y) Y (show IntKind.wrap .i64 ((p.length:Int) - (takesN ((l.getD j default).op)))=(p.length:Int) - takesN (l.getD j default).op by (exact wrap_le (by omega) (by omega))) Y Y Y Y Y τ⟩)<|.g (fun _ τ=>⟨_,.trim (.no Y) Y (hv:=((p.length:Int) - takesN (l.getD j default).op).toNat) (els':=List.map i64c (p.take (((p.length:Int) - takesN (l.getD j default).op).toNat))) t42 Y t2 Y Y Y Y (by exact ⟨_,nat_iv (a:=(p.length:Int) - takesN (l.getD j default).op) (by omega)⟩) (le_map (by omega)) (by rw [List.map_take]) Y τ⟩)<|.mv Y ?_
       refine .g (fun _ τ=>⟨_,.buildSlice (.no Y) Y (els:=[[.v (.int .i64 (kdL ((l.getD j default).op)))]]) t42 Y z2 Y Y Y Y Y Y Y Y (by simp [i2]) (.cons _ _ _ _ _ _ (.d _) .nil) Y Y Y τ⟩)<|.g (fun _ τ=>⟨_,.append (.no Y) Y (l3:=List.map i64c (p.take (((p.length:Int) - takesN (l.getD j default).op).toNat)++[kdL ((l.getD j default).op)])) t42 Y z2 Y Y Y Y Y Y Y Y (.ref _ _ _ _ Y) (.take _ _ _ _ _ Y) Y (by first | (simp [i2]; omega) | (simp [i3]; omega)) (map_snoc _ _ _) Y Y τ⟩)<|.as Y<|.z<|.rs fun k28=>.mv Y<|.bi Y<|.as Y<|.z ?_
       exact .here ((j+1),(p.take ((p.length:Int) - takesN (l.getD j default).op).toNat++[kdL (l.getD j default).op]),(k27+1+1+1+1+1+1+1+1),(k27+1+1+1+1+1+1+1+1)) (.of (.cons Y (.cons Y (.cons (by show SV.one (.ref [19] (k27+1+1+1+1+1+1+1+1))=SV.one (.ref [19] ((k27+1+1+1+1+1+1+1+1))); first | rfl | simp_all) (.cons (svI (show (IntKind.wrap .i64 ((j:Int)+1))=(((j+1):Int)) by first | rfl | omega | exact wrap_le (by omega) (by omega) | (rw [wrap_le (by omega) (by omega)]; omega))) .nil)))) (.cons Y (.cons (rowE (show List.map i64c (p.take (((p.length:Int) - takesN (l.getD j default).op).toNat)++[kdL ((l.getD j default).op)])=List.map i64c ((p.take ((p.length:Int) - takesN (l.getD j default).op).toNat++[kdL (l.getD j default).op])) by first | with_reducible rfl | rfl | skip)) .nil))) ⟨(show (j+1)≤l.length∧kdS d l (j+1)=some (p.take ((p.length:Int) - takesN (l.getD j default).op).toNat++[kdL (l.getD j default).op]) by exact ⟨by omega,kd_each hI1.2 c2 hI.2 (by omega)⟩),(show l.length - (j+1) < l.length - j by omega)⟩
   ·have c1:=of_decide_eq_false c1
    refine .exit<|.seq<|.seq<|.rs fun k29=>.mv Y<|.g (fun _ τ=>⟨_,.len (.no Y) Y (z:=(p.length:Int)) t42 Y Y Y (.ref _ _ _ _ _ Y) (map_len _ _) Y τ⟩)<|.bi Y<|.z ?_
    refine .cond (t:=(p.length:Int) != 1) Y (fun c5=>?_) (fun c5=>?_)
    ·have c5:=(by simpa using c5:¬ ((p.length:Int)=1))
     refine .seq<|.rs fun k30=>.as Y<|.z<|.ret ?_
     exact fin0 (.inr Y) (.one (svI (show (0)=(Expr.kindIn d l) by (rw [hz,kind_many (by omega) hI.2 (by omega)]))) .nil) (.dd .nil) Y
    ·have c5:=(by simpa using c5:(p.length:Int)=1)
     refine .skip<|.seq<|.rs fun k32=>.mv Y<|.g (fun _ τ=>⟨_,.indexAddr (.no Y) Y (0) t42 Y t2 Y Y Y (.ref _ _ _ _ _ Y) Y Y Y (map_get (by first | omega | (have h9:=hI; omega))) Y Y τ⟩)<|.ld t2 Y (.eptr _ _ _ _ _ _ _ _ _ Y (map_get (by first | omega | (have h9:=hI; omega)))) Y<|.as Y<|.z<|.ret ?_
     exact fin0 (.inr Y) (.one (svI (show (p.getD 0 default)=(Expr.kindIn d l) by (rw [hz,kind_one (by omega) (by omega) hI.2 (by omega)]))) .nil) (.dd .nil) Y
theorem c_takes (op:Int):Trip Tryd.prog 63 [(false,1)] ([.v (.int .i64 (op))]) [(false,1)] [.sl false 2 1 (List.map i64c (takesL op))] []:=by
 refine Trip.of Tryd.func63 (by decide) (c:=_) Y Y (Nat.le_of_ble_eq_true Y) Y (AftOk.nil _)<|.seq<|.rs fun k1=>.as Y<|.z<|.seq<|.block<|.seq ?_
 refine .reg (X:=Unit) (fun ζ=>.of [(0,.one (.d (.v (.int .i64 (op))))),(3,.one (.d (.v (.bool ((op == 6||op == 7))))))] []) [⟨[0],some 4,[],[]⟩,⟨[4],some 5,[],[]⟩,⟨[5],some 6,[],[]⟩,⟨[6,0],some 7,[],[]⟩,⟨[6,7],some 8,[],[]⟩,⟨[6,8],some 9,[],[]⟩,⟨[9],some 3,[],[]⟩] (fun k2=>?_) ?_
 ·skip
  refine .move (.no Y) Y Y Y Y<|.bin (.no Y) Y Y Y Y Y Y<|.moveB (.no Y) Y Y Y Y fun b3 g1_2=>?_
  cases b3
  ·skip
   refine .move (.on Y Y Y Y Y) Y Y Y Y<|.bin (.on Y Y Y Y Y) Y Y Y Y Y Y<|.pick (.no Y) Y Y Y Y Y<|.assign (.no Y) Y Y Y Y ?_
   exact .fin () (.of (.cons Y (.cons (svB (show (op == 7)=((op == 6||op == 7)) by first | (simp only [g1_2,Bool.true_or,Bool.false_or,Bool.true_and,Bool.false_and,Bool.not_true,Bool.not_false]; done) | (simp [g1_2]; done) | (exfalso; simp_all; done))) .nil)) .nil)
  ·skip
   refine .off Y Y Y Y Y Y Y<|.off Y Y Y Y Y Y Y<|.pick (.no Y) Y Y Y Y Y<|.assign (.no Y) Y Y Y Y ?_
   exact .fin () (.of (.cons Y (.cons (svB (show (true)=((op == 6||op == 7)) by first | (simp only [g1_2,Bool.true_or,Bool.false_or,Bool.true_and,Bool.false_and,Bool.not_true,Bool.not_false]; done) | (simp [g1_2]; done) | (exfalso; simp_all; done))) .nil)) .nil)
 intro _
 refine .cond (t:=(op == 6||op == 7)) Y (fun c0=>?_) (fun c0=>?_)
 ·have c0:=(oT eT eT) c0
  refine .seq<|.rs fun k4=>.g (fun _ τ=>⟨_,.buildSlice (.no Y) Y (els:=[[.v (.int .i64 (1))]]) t42 Y z2 Y Y Y Y Y Y Y Y (by simp [i2]) (.cons _ _ _ _ _ _ (.d _) .nil) Y Y Y τ⟩)<|.as Y<|.z<|.ret ?_
  exact fin1 (.inr Y) [[10]] [([10],(k4,k4,.row 2 1 ([[.v (.int .i64 (1))]])))] (.one Y .nil) (.cons (Gives.castE (f:=i64c) (L:=[1]) (L':=takesL op) (by (unfold takesL; rw [if_pos c0])) (Reads.ref (Frz.of_erase (erase_slo true 2 1 i64c i64c ([1]) i64c_e)) (.head _) (.head _)).gives) .nil) Y Y (.r Y)
 ·have c0:=(oF eF eF) c0
  refine .seq<|.rs fun k5=>.mv Y<|.c0 (c_within op 8 18) Y (.dd (.dd (.dd .nil))) (.own [13,0] .nil) Y<|.as Y<|.z ?_
  refine .cond (t:=inR op 8 18) Y (fun c1=>?_) (fun c1=>?_)
  ·have c1:=c1
   refine .seq<|.rs fun k6=>.g (fun _ τ=>⟨_,.buildSlice (.no Y) Y (els:=[[.v (.int .i64 (1))],[.v (.int .i64 (1))]]) t42 Y z2 Y Y Y Y Y Y Y Y (by simp [i2]) (.cons _ _ _ _ _ _ (.d _) (.cons _ _ _ _ _ _ (.d _) .nil)) Y Y Y τ⟩)<|.as Y<|.z<|.ret ?_
   exact fin1 (.inr Y) [[14]] [([14],(k6,k6,.row 2 1 ([[.v (.int .i64 (1))],[.v (.int .i64 (1))]])))] (.one Y .nil) (.cons (Gives.castE (f:=i64c) (L:=[1,1]) (L':=takesL op) (by (unfold takesL; rw [if_neg (by omega),if_pos c1])) (Reads.ref (Frz.of_erase (erase_slo true 2 1 i64c i64c ([1,1]) i64c_e)) (.head _) (.head _)).gives) .nil) Y Y (.r Y)
  ·have c1:=c1
   refine .seq<|.rs fun k7=>.mv Y<|.bi Y<|.as Y<|.z ?_
   refine .cond (t:=op == 19) Y (fun c2=>?_) (fun c2=>?_)
   ·have c2:=(by simpa using c2:op=19)
    refine .seq<|.rs fun k8=>.g (fun _ τ=>⟨_,.buildSlice (.no Y) Y (els:=[[.v (.int .i64 (2))]]) t42 Y z2 Y Y Y Y Y Y Y Y (by simp [i2]) (.cons _ _ _ _ _ _ (.d _) .nil) Y Y Y τ⟩)<|.as Y<|.z<|.ret ?_
    exact fin1 (.inr Y) [[18]] [([18],(k8,k8,.row 2 1 ([[.v (.int .i64 (2))]])))] (.one Y .nil) (.cons (Gives.castE (f:=i64c) (L:=[2]) (L':=takesL op) (by (unfold takesL; rw [if_neg (by omega),if_neg (by rw [c1]; decide),if_pos c2])) (Reads.ref (Frz.of_erase (erase_slo true 2 1 i64c i64c ([2]) i64c_e)) (.head _) (.head _)).gives) .nil) Y Y (.r Y)
   ·have c2:=(by simpa using c2:¬ (op=19))
    refine .seq ?_
    refine .reg (X:=Unit) (fun ζ=>.of [(19,.one (.d (.v (.bool ((op == 20||op == 21))))))] []) [⟨[0],some 20,[],[]⟩,⟨[20],some 21,[],[]⟩,⟨[21],some 22,[],[]⟩,⟨[22,0],some 23,[],[]⟩,⟨[22,23],some 24,[],[]⟩,⟨[22,24],some 25,[],[]⟩,⟨[25],some 19,[],[]⟩] (fun k9=>?_) ?_
    ·skip
     refine .move (.no Y) Y Y Y Y<|.bin (.no Y) Y Y Y Y Y Y<|.moveB (.no Y) Y Y Y Y fun b10 g7_2=>?_
     cases b10
     ·skip
      refine .move (.on Y Y Y Y Y) Y Y Y Y<|.bin (.on Y Y Y Y Y) Y Y Y Y Y Y<|.pick (.no Y) Y Y Y Y Y<|.assign (.no Y) Y Y Y Y ?_
      exact .fin () (.of (.cons (svB (show (op == 21)=((op == 20||op == 21)) by first | (simp only [g7_2,Bool.true_or,Bool.false_or,Bool.true_and,Bool.false_and,Bool.not_true,Bool.not_false]; done) | (simp [g7_2]; done) | (exfalso; simp_all; done))) .nil) .nil)
     ·skip
      refine .off Y Y Y Y Y Y Y<|.off Y Y Y Y Y Y Y<|.pick (.no Y) Y Y Y Y Y<|.assign (.no Y) Y Y Y Y ?_
      exact .fin () (.of (.cons (svB (show (true)=((op == 20||op == 21)) by first | (simp only [g7_2,Bool.true_or,Bool.false_or,Bool.true_and,Bool.false_and,Bool.not_true,Bool.not_false]; done) | (simp [g7_2]; done) | (exfalso; simp_all; done))) .nil) .nil)
    intro _
    refine .cond (t:=(op == 20||op == 21)) Y (fun c3=>?_) (fun c3=>?_)
    ·have c3:=(oT eT eT) c3
     refine .seq<|.rs fun k11=>.g (fun _ τ=>⟨_,.buildSlice (.no Y) Y (els:=[[.v (.int .i64 (2))],[.v (.int .i64 (2))]]) t42 Y z2 Y Y Y Y Y Y Y Y (by simp [i2]) (.cons _ _ _ _ _ _ (.d _) (.cons _ _ _ _ _ _ (.d _) .nil)) Y Y Y τ⟩)<|.as Y<|.z<|.ret ?_
     exact fin1 (.inr Y) [[26]] [([26],(k11,k11,.row 2 1 ([[.v (.int .i64 (2))],[.v (.int .i64 (2))]])))] (.one Y .nil) (.cons (Gives.castE (f:=i64c) (L:=[2,2]) (L':=takesL op) (by (unfold takesL; rw [if_neg (by omega),if_neg (by rw [c1]; decide),if_neg c2,if_pos c3])) (Reads.ref (Frz.of_erase (erase_slo true 2 1 i64c i64c ([2,2]) i64c_e)) (.head _) (.head _)).gives) .nil) Y Y (.r Y)
    ·have c3:=(oF eF eF) c3
     refine .skip<|.seq<|.rs fun k12=>.as Y<|.z<|.ret ?_
     exact fin0 (.inr Y) (.one Y .nil) (.cons (Gives.nil' (by (unfold takesL; rw [if_neg (by omega),if_neg (by rw [c1]; decide),if_neg c2,if_neg (by omega)]; rfl))) .nil) Y
theorem c_leaves1 (op:Int):Trip Tryd.prog 65 [(false,1)] ([.v (.int .i64 (op))]) [(false,1)] [.v (.int .i64 (leavesK op))] []:=by
 refine Trip.of Tryd.func65 (by decide) (c:=_) Y Y (Nat.le_of_ble_eq_true Y) Y (AftOk.nil _)<|.seq<|.rs fun k1=>.as Y<|.z<|.seq<|.seq ?_
 refine .reg (X:=Unit) (fun ζ=>.of [(8,.one (.d (.v (.bool ((inR op 3 5||decide (op≥13)))))))] []) [⟨[0],some 3,[],[]⟩,⟨[3],some 4,[],[]⟩,⟨[4],some 5,[],[]⟩,⟨[5,0],some 6,[],[]⟩,⟨[5,6],some 7,[],[]⟩,⟨[5,7],some 8,[],[]⟩] (fun k2=>?_) ?_
 ·skip
  refine .move (.no Y) Y Y Y Y<|.call (.no Y) Y [] [] (c_within op 3 5) Y Y Y Y Y (.dd (.dd (.dd .nil))) Y Y (fun h=>absurd Y h) (.own [4,0] .nil) (.nil) Y Y Y (by simp) Y Y Y<|.moveB (.no Y) Y Y Y Y fun b3 g1_2=>?_
  cases b3
  ·skip
   refine .move (.on Y Y Y Y Y) Y Y Y Y<|.bin (.on Y Y Y Y Y) Y Y Y Y Y Y<|.pick (.no Y) Y Y Y Y Y ?_
   exact .fin () (.of (.cons (svB (show (decide (op≥13))=((inR op 3 5||decide (op≥13))) by first | (simp only [g1_2,Bool.true_or,Bool.false_or,Bool.true_and,Bool.false_and,Bool.not_true,Bool.not_false]; done) | (simp [g1_2]; done) | (exfalso; simp_all; done))) .nil) .nil)
  ·skip
   refine .off Y Y Y Y Y Y Y<|.off Y Y Y Y Y Y Y<|.pick (.no Y) Y Y Y Y Y ?_
   exact .fin () (.of (.cons (svB (show (true)=((inR op 3 5||decide (op≥13))) by first | (simp only [g1_2,Bool.true_or,Bool.false_or,Bool.true_and,Bool.false_and,Bool.not_true,Bool.not_false]; done) | (simp [g1_2]; done) | (exfalso; simp_all; done))) .nil) .nil)
 intro _
 refine .cond (t:=(inR op 3 5||decide (op≥13))) Y (fun c0=>?_) (fun c0=>?_)
 ·have c0:=(oT id dT) c0
  refine .seq<|.rs fun k4=>.as Y<|.z<|.ret ?_
  exact fin0 (.inr Y) (.one (svI (show (2)=(leavesK op) by (unfold leavesK; rw [if_pos c0]))) .nil) (.dd .nil) Y
 ·have c0:=(oF id dF) c0
  refine .skip<|.seq<|.rs fun k6=>.as Y<|.z<|.ret ?_
  exact fin0 (.inr Y) (.one (svI (show (1)=(leavesK op) by (unfold leavesK; rw [if_neg (by rcases c0 with ⟨h1,h2⟩; rw [h1]; simp; omega)]))) .nil) (.dd .nil) Y
theorem c_isTok (d:Decl) (t:Tok):Trip Tryd.prog 62 [(true,3),(true,2)] (Decl.c36 d++Tok.c t) [(false,1)] [.v (.bool (Tok.ok d t))] []:=by
 refine Trip.of Tryd.func62 (by decide) (c:=_) Y Y (Nat.le_of_ble_eq_true Y) Y (AftOk.nil _)<|.sla (t:=0) 0 Y Y fun hs1l=>.sla (t:=0) 1 Y Y fun hs2l=>.sla (t:=0) 2 Y Y fun hs3l=>.seq<|.rs fun k4=>.g (fun _ τ=>⟨_,.box (.no Y) Y Y Y Y Y τ⟩)<|.g (fun _ τ=>⟨_,.box (.no Y) Y Y Y Y Y τ⟩)<|.as Y ?_
 refine .z<|.seq<|.seq<|.rs fun k5=>.fp t40 t2 Y<|.ld t2 Y (.ptr _ _ _ _ _ Y) Y<|.z<|.block<|.seq ?_
 refine .rs fun k6=>.bi Y<|.as Y<|.z ?_
 refine .cond (t:=t.op == 1) Y (fun c0=>?_) (fun c0=>?_)
 ·have c0:=(by simpa using c0:t.op=1)
  refine .seq<|.rs fun k7=>.fp t40 t2 Y<|.ld t2 Y (.ptr _ _ _ _ _ Y) Y<|.c0 (c_within t.n 0 999999999999999999) Y (.dd (.dd (.dd .nil))) (.own [11,0] .nil) Y<|.as Y<|.z<|.ret ?_
  exact fin0 (.inr Y) (.one (svB (show (inR t.n 0 999999999999999999)=(Tok.ok d t) by (unfold Tok.ok; rw [if_pos c0]))) .nil) (.dd .nil) Y
 ·have c0:=(by simpa using c0:¬ (t.op=1))
  refine .seq<|.rs fun k9=>.bi Y<|.as Y<|.z ?_
  refine .cond (t:=t.op == 2) Y (fun c1=>?_) (fun c1=>?_)
  ·have c1:=(by simpa using c1:t.op=2)
   refine .seq ?_
   refine .regD (X:=Unit) (by kernel_rfl) (fun ζ=>.of [(4,.one (.d (.v (.bool (inR t.n 0 ((d.vars.length:Int) - 1))))))] []) [⟨[3],some 14,[],[]⟩,⟨[14],some 15,[[3]],[]⟩,⟨[2],some 16,[],[]⟩,⟨[16],some 17,[[2]],[]⟩,⟨[17],some 18,[],[]⟩,⟨[18],some 19,[],[]⟩,⟨[15,19],some 20,[],[]⟩,⟨[20],some 4,[],[]⟩] (by kernel_rfl) (fun k10=>?_) ?_
   ·skip
    refine .fieldAddrP (.no Y) Y t40 Y Y t2 Y Y Y Y<|.load (.no Y) Y t2 Y Y (.ptr _ _ _ _ _ Y) Y Y Y Y<|.fieldAddrP (.no Y) Y t36 Y Y t33 Y Y Y Y<|.load (.no Y) Y t33 Y Y (.ptr _ _ _ _ _ Y) Y Y Y Y<|.call (.no Y) Y [] [] (c_sizeS d.vars) Y Y Y Y Y (.dd .nil) Y Y (fun h=>absurd Y h) (.own [18,0] .nil) (.nil) Y Y Y (by simp) Y Y Y<|.binN (.no Y) Y (show IntKind.wrap .i64 ((d.vars.length:Int) - 1)=(d.vars.length:Int) - 1 by (exact wrap_le (by omega) (by omega))) Y Y Y Y Y<|.call (.no Y) Y [] [] (c_within t.n 0 ((d.vars.length:Int) - 1)) Y Y Y Y Y (.dd (.dd (.dd .nil))) Y Y (fun h=>absurd Y h) (.own [20,0] .nil) (.nil) Y Y Y (by simp) Y Y Y<|.assign (.no Y) Y Y Y Y ?_
    exact .fin () (.of (.r Y) .nil)
   intro _
   refine .ret ?_
   exact fin0 (.inr Y) (.one (svB (show (inR t.n 0 ((d.vars.length:Int) - 1))=(Tok.ok d t) by (unfold Tok.ok; rw [if_neg c0,if_pos c1]))) .nil) (.dd .nil) Y
  ·have c1:=(by simpa using c1:¬ (t.op=2))
   refine .seq<|.rs fun k12=>.bi Y<|.as Y<|.z ?_
   refine .cond (t:=t.op == 3) Y (fun c2=>?_) (fun c2=>?_)
   ·have c2:=(by simpa using c2:t.op=3)
    refine .seq ?_
    refine .regD (X:=Unit) (by kernel_rfl) (fun ζ=>.of [(4,.one (.d (.v (.bool (inR t.n 0 ((d.flags.length:Int) - 1))))))] []) [⟨[3],some 23,[],[]⟩,⟨[23],some 24,[[3]],[]⟩,⟨[2],some 25,[],[]⟩,⟨[25],some 26,[[2]],[]⟩,⟨[26],some 27,[],[]⟩,⟨[27],some 28,[],[]⟩,⟨[24,28],some 29,[],[]⟩,⟨[29],some 4,[],[]⟩] (by kernel_rfl) (fun k13=>?_) ?_
    ·skip
     refine .fieldAddrP (.no Y) Y t40 Y Y t2 Y Y Y Y<|.load (.no Y) Y t2 Y Y (.ptr _ _ _ _ _ Y) Y Y Y Y<|.fieldAddrP (.no Y) Y t36 Y Y t33 Y Y Y Y<|.load (.no Y) Y t33 Y Y (.ptr _ _ _ _ _ Y) Y Y Y Y<|.call (.no Y) Y [] [] (c_sizeS d.flags) Y Y Y Y Y (.dd .nil) Y Y (fun h=>absurd Y h) (.own [27,0] .nil) (.nil) Y Y Y (by simp) Y Y Y<|.binN (.no Y) Y (show IntKind.wrap .i64 ((d.flags.length:Int) - 1)=(d.flags.length:Int) - 1 by (exact wrap_le (by omega) (by omega))) Y Y Y Y Y<|.call (.no Y) Y [] [] (c_within t.n 0 ((d.flags.length:Int) - 1)) Y Y Y Y Y (.dd (.dd (.dd .nil))) Y Y (fun h=>absurd Y h) (.own [29,0] .nil) (.nil) Y Y Y (by simp) Y Y Y<|.assign (.no Y) Y Y Y Y ?_
     exact .fin () (.of (.r Y) .nil)
    intro _
    refine .ret ?_
    exact fin0 (.inr Y) (.one (svB (show (inR t.n 0 ((d.flags.length:Int) - 1))=(Tok.ok d t) by (unfold Tok.ok; rw [if_neg c0,if_neg c1,if_pos c2]))) .nil) (.dd .nil) Y
   ·have c2:=(by simpa using c2:¬ (t.op=3))
    refine .seq<|.rs fun k15=>.bi Y<|.as Y<|.z ?_
    refine .cond (t:=t.op == 6) Y (fun c3=>?_) (fun c3=>?_)
    ·have c3:=(by simpa using c3:t.op=6)
     refine .seq ?_
     refine .regD (X:=Unit) (by kernel_rfl) (fun ζ=>.of [(4,.one (.d (.v (.bool (inR t.n 0 ((d.arrays.length:Int) - 1))))))] []) [⟨[3],some 32,[],[]⟩,⟨[32],some 33,[[3]],[]⟩,⟨[2],some 34,[],[]⟩,⟨[34],some 35,[[2]],[]⟩,⟨[35],some 36,[],[]⟩,⟨[36],some 37,[],[]⟩,⟨[33,37],some 38,[],[]⟩,⟨[38],some 4,[],[]⟩] (by kernel_rfl) (fun k16=>?_) ?_
     ·skip
      refine .fieldAddrP (.no Y) Y t40 Y Y t2 Y Y Y Y<|.load (.no Y) Y t2 Y Y (.ptr _ _ _ _ _ Y) Y Y Y Y<|.fieldAddrP (.no Y) Y t36 Y Y t34 Y Y Y Y<|.load (.no Y) Y t34 Y Y (.ptr _ _ _ _ _ Y) Y Y Y Y<|.call (.no Y) Y [] [] (c_sizeA d.arrays) Y Y Y Y Y (.dd .nil) Y Y (fun h=>absurd Y h) (.own [36,0] .nil) (.nil) Y Y Y (by simp) Y Y Y<|.binN (.no Y) Y (show IntKind.wrap .i64 ((d.arrays.length:Int) - 1)=(d.arrays.length:Int) - 1 by (exact wrap_le (by omega) (by omega))) Y Y Y Y Y<|.call (.no Y) Y [] [] (c_within t.n 0 ((d.arrays.length:Int) - 1)) Y Y Y Y Y (.dd (.dd (.dd .nil))) Y Y (fun h=>absurd Y h) (.own [38,0] .nil) (.nil) Y Y Y (by simp) Y Y Y<|.assign (.no Y) Y Y Y Y ?_
      exact .fin () (.of (.r Y) .nil)
     intro _
     refine .ret ?_
     exact fin0 (.inr Y) (.one (svB (show (inR t.n 0 ((d.arrays.length:Int) - 1))=(Tok.ok d t) by (unfold Tok.ok; rw [if_neg c0,if_neg c1,if_neg c2,if_pos c3]))) .nil) (.dd .nil) Y
    ·have c3:=(by simpa using c3:¬ (t.op=6))
     refine .skip<|.seq ?_
     refine .reg (X:=Unit) (fun ζ=>.of [(4,.one (.d (.v (.bool ((inR t.op 4 21&&t.n == 0))))))] []) [⟨[3],some 39,[],[]⟩,⟨[39],some 40,[[3]],[]⟩,⟨[40],some 41,[],[]⟩,⟨[41],some 42,[],[]⟩,⟨[42,3],some 43,[],[]⟩,⟨[42,43],some 44,[[3]],[]⟩,⟨[42,44],some 45,[],[]⟩,⟨[42,45],some 46,[],[]⟩,⟨[46],some 4,[],[]⟩] (fun k18=>?_) ?_
     ·skip
      refine .fieldAddrP (.no Y) Y t40 Y Y t2 Y Y Y Y<|.load (.no Y) Y t2 Y Y (.ptr _ _ _ _ _ Y) Y Y Y Y<|.call (.no Y) Y [] [] (c_within t.op 4 21) Y Y Y Y Y (.dd (.dd (.dd .nil))) Y Y (fun h=>absurd Y h) (.own [41,0] .nil) (.nil) Y Y Y (by simp) Y Y Y<|.moveB (.no Y) Y Y Y Y fun b19 g10_3=>?_
      cases b19
      ·skip
       refine .off Y Y Y Y Y Y Y<|.off Y Y Y Y Y Y Y<|.off Y Y Y Y Y Y Y<|.pick (.no Y) Y Y Y Y Y<|.assign (.no Y) Y Y Y Y ?_
       exact .fin () (.of (.cons (svB (show (false)=((inR t.op 4 21&&t.n == 0)) by first | (simp only [g10_3,Bool.true_or,Bool.false_or,Bool.true_and,Bool.false_and,Bool.not_true,Bool.not_false]; done) | (simp [g10_3]; done) | (exfalso; simp_all; done))) .nil) .nil)
      ·skip
       refine .fieldAddrP (.on Y Y Y Y Y) Y t40 Y Y t2 Y Y Y Y<|.load (.on Y Y Y Y Y) Y t2 Y Y (.ptr _ _ _ _ _ Y) Y Y Y Y<|.bin (.on Y Y Y Y Y) Y Y Y Y Y Y<|.pick (.no Y) Y Y Y Y Y<|.assign (.no Y) Y Y Y Y ?_
       exact .fin () (.of (.cons (svB (show (t.n == 0)=((inR t.op 4 21&&t.n == 0)) by first | (simp only [g10_3,Bool.true_or,Bool.false_or,Bool.true_and,Bool.false_and,Bool.not_true,Bool.not_false]; done) | (simp [g10_3]; done) | (exfalso; simp_all; done))) .nil) .nil)
     intro _
     refine .ret ?_
     exact fin0 (.inr Y) (.one (svB (show ((inR t.op 4 21&&t.n == 0))=(Tok.ok d t) by (unfold Tok.ok; rw [if_neg c0,if_neg c1,if_neg c2,if_neg c3]))) .nil) (.dd .nil) Y
theorem c_IndexFuncK (l:List Tok) (F_p:FuncId) (first_p:List (Bool × List D)) (caps_p:List D) (p:Tok→Bool) (h_p:∀ (x0:Tok),FnTrip Tryd.prog F_p first_p caps_p [(true,2)] (Tok.c x0) [(false,1)] [.v (.bool (p x0))]):Trip Tryd.prog 108 [(false,1),(false,1)] ([.sl false 40 2 (List.map Tok.c (l))]++[.fn F_p first_p caps_p]) [(false,1)] [.v (.int .i64 (idx p l))] []:=by
 refine Trip.of Tryd.func108 (by decide) (c:=_) Y Y (Nat.le_of_ble_eq_true Y) Y (AftOk.nil _)<|.sl (t:=0) Y fun hs1l=>.seq<|.rs fun k2=>.as Y<|.z<|.seq<|.seq<|.rs fun k3=>?_
 refine .mv Y<|.g (fun _ τ=>⟨_,.len (.no Y) Y (z:=(l.length:Int)) t41 Y Y Y (.d _ _) (map_len _ _) Y τ⟩)<|.mv Y<|.z<|.block ?_
 refine .loop (X:=Nat) (fun ζ=>.of [(0,.one (.d (.sl false 40 2 (List.map Tok.c (l))))),(1,.one (.d (.fn F_p first_p caps_p))),(7,.one (.d (.v (.int .i64 ((l.length:Int)))))),(8,.one (.d (.v (.int .i64 ((ζ:Int))))))] []) (fun ζ=>ζ≤l.length∧allTo ζ (fun i=>!p (l.getD i default))=true) (fun ζ=>l.length - ζ) ?_ ?_
 ·skip
  exact .here 0 (.of (.cons Y (.cons Y (.cons Y (.cons (svI (show (0)=((0:Int)) by first | rfl | omega | exact wrap_le (by omega) (by omega) | (rw [wrap_le (by omega) (by omega)]; omega))) .nil)))) .nil) (show 0≤l.length∧allTo 0 (fun i=>!p (l.getD i default))=true by exact ⟨by omega,rfl⟩)
 ·rintro j hI
  have hI:j≤l.length∧allTo j (fun i=>!p (l.getD i default))=true:=hI
  refine .seq<|.rs fun k4=>.bi Y<|.z<|.seq ?_
  refine .cond (t:=decide ((j:Int) < (l.length:Int))) Y (fun c0=>?_) (fun c0=>?_)
  ·have c0:=of_decide_eq_true c0
   refine .skip<|.seq<|.block<|.seq<|.rs fun k5=>.mv Y<|.as Y<|.z<|.seq ?_
   refine .rs fun k6=>.mv Y<|.mv Y<|.mv Y<|.g (fun _ τ=>⟨_,.indexAddr (.no Y) Y (j) t41 Y t40 Y Y Y (.d _ _) Y Y Y (map_get (by omega)) Y Y τ⟩)<|.lda t40 Y (.d _) Y<|.g (fun _ τ=>⟨_,.callF (.no Y) Y (ds:=[.v (.int .i64 ((l.getD j default).op)),.v (.int .i64 ((l.getD j default).n))]) (h_p (l.getD j default)) Y Y Y Y (.own [16,0] .nil) Y Y Y Y Y Y τ⟩)<|.z ?_
   refine .cond (t:=p (l.getD j default)) Y (fun c1=>?_) (fun c1=>?_)
   ·have c1:=c1
    refine .seq<|.rs fun k7=>.mv Y<|.as Y<|.z<|.ret ?_
    exact fin0 (.inr Y) (.one (svI (show ((j:Int))=(idx p l) by exact (idx_found (j:=j) (by omega) hI.2 (by simpa using c1)).symm)) .nil) (.dd .nil) Y
   ·have c1:=c1
    refine .skip<|.rs fun k9=>.bi Y<|.mv Y<|.z ?_
    exact .here (j+1) (.of (.cons Y (.cons Y (.cons Y (.cons (svI (show (IntKind.wrap .i64 ((j:Int)+1))=(((j+1):Int)) by first | rfl | omega | exact wrap_le (by omega) (by omega) | (rw [wrap_le (by omega) (by omega)]; omega))) .nil)))) .nil) ⟨(show (j+1)≤l.length∧allTo (j+1) (fun i=>!p (l.getD i default))=true by exact ⟨by omega,allTo_step hI.2 (by simpa using c1)⟩),(show l.length - (j+1) < l.length - j by omega)⟩
  ·have c0:=of_decide_eq_false c0
   refine .exit<|.seq<|.rs fun k10=>.as Y<|.z<|.ret ?_
   exact fin0 (.inr Y) (.one (svI (show (-1)=(idx p l) by exact (idx_none (by omega) hI.2).symm)) .nil) (.dd .nil) Y
theorem c_ContainsFuncK (l:List Tok) (F_p:FuncId) (first_p:List (Bool × List D)) (caps_p:List D) (p:Tok→Bool) (h_p:∀ (x0:Tok),FnTrip Tryd.prog F_p first_p caps_p [(true,2)] (Tok.c x0) [(false,1)] [.v (.bool (p x0))]):Trip Tryd.prog 83 [(false,1),(false,1)] ([.sl false 40 2 (List.map Tok.c (l))]++[.fn F_p first_p caps_p]) [(false,1)] [.v (.bool (l.any p))] []:=by
 refine Trip.of Tryd.func83 (by decide) (c:=_) Y Y (Nat.le_of_ble_eq_true Y) Y (AftOk.nil _)<|.sl (t:=0) Y fun hs1l=>.seq<|.rs fun k2=>.as Y<|.z<|.seq<|.rs fun k3=>.mv Y ?_
 refine .mv Y<|.c0 (c_IndexFuncK l F_p first_p caps_p p h_p) Y (.dd (.dd .nil)) (.own [7,0] .nil) Y<|.bi Y<|.as Y<|.z<|.ret ?_
 exact fin0 (.inr Y) (.one (svB (show (decide ((idx p l)≥0))=(l.any p) by exact idx_any _ _)) .nil) (.dd .nil) Y
theorem c_areAll1K (x:Tok) (F_p:FuncId) (first_p:List (Bool × List D)) (caps_p:List D) (p:Tok→Bool) (h_p:∀ (x0:Tok),FnTrip Tryd.prog F_p first_p caps_p [(true,2)] (Tok.c x0) [(false,1)] [.v (.bool (p x0))]):Trip Tryd.prog 84 [(true,2),(false,1)] (Tok.c x++[.pt false [.fn F_p first_p caps_p]]) [(false,1)] [.v (.bool (!p x))] []:=by
 refine Trip.of Tryd.func84 (by decide) (c:=_) Y Y (Nat.le_of_ble_eq_true Y) Y (AftOk.nil _)<|.seq<|.rs fun k1=>.g (fun _ τ=>⟨_,.box (.no Y) Y Y Y Y Y τ⟩)<|.as Y<|.z<|.seq<|.rs fun k2=>.ld t89 Y (.d _) Y ?_
 refine .lda t40 Y (.ptr _ _ _ _ _ Y) Y<|.g (fun _ τ=>⟨_,.callF (.no Y) Y (ds:=[.v (.int .i64 (x.op)),.v (.int .i64 (x.n))]) (h_p x) Y Y Y Y (.own [6,0] .nil) Y Y Y Y Y Y τ⟩)<|.un Y<|.as Y<|.z<|.ret ?_
 exact fin0 (.inr Y) (.one (svB (show (!(p x))=(!p x) by rfl)) .nil) (.dd .nil) Y
theorem c_areAllK (l:List Tok) (F_p:FuncId) (first_p:List (Bool × List D)) (caps_p:List D) (p:Tok→Bool) (h_p:∀ (x0:Tok),FnTrip Tryd.prog F_p first_p caps_p [(true,2)] (Tok.c x0) [(false,1)] [.v (.bool (p x0))]):Trip Tryd.prog 61 [(false,1),(false,1)] ([.sl false 40 2 (List.map Tok.c (l))]++[.fn F_p first_p caps_p]) [(false,1)] [.v (.bool (l.all p))] []:=by
 refine Trip.of Tryd.func61 (by decide) (c:=_) Y Y (Nat.le_of_ble_eq_true Y) Y (AftOk.nil _)<|.sl (t:=0) Y fun hs1l=>.seq<|.rs fun k2=>.g (fun _ τ=>⟨_,.box (.no Y) Y Y Y Y Y τ⟩)<|.as Y<|.z<|.seq<|.rs fun k3=>?_
 refine .mv Y<|.g (fun _ τ=>⟨_,.makeFunc (.no Y) Y Y Y Y Y τ⟩)<|.g (fun _ τ=>⟨_,.call (.no Y) Y [[3]] [([3],(k2,k2,.box [.d (.fn F_p first_p caps_p)]))] (c_ContainsFuncK l 84 [] [.pt false [.fn F_p first_p caps_p]] (fun x0=>!p x0) (fun x0=>c_areAll1K x0 F_p first_p caps_p p h_p)) Y Y Y Y Y (.dd (.cons (Reads.clo0 (.cons (Reads.ptr0 (.head _) (.head _) (.cons (Reads.d _) .nil)) .nil)).gives .nil)) Y Y (fun _=>(ownCons (Owned.v _) ownNil)) (.own [7,0] .nil) (.nil) Y Y Y (AllH.get (.r Y)) Y Y Y τ⟩)<|.un Y<|.as Y<|.z<|.ret ?_
 exact fin0 (.inr Y) (.one (svB (show (!(l.any (fun x0=>!p x0)))=(l.all p) by exact not_any _ _)) .nil) (.dd .nil) Y
theorem c_EqualN (a:List Int) (b:List Int):Trip Tryd.prog 64 [(false,1),(false,1)] ([.sl false 2 1 (List.map i64c (a))]++[.sl false 2 1 (List.map i64c (b))]) [(false,1)] [.v (.bool (all2 intEq a b))] []:=by
 refine Trip.of Tryd.func64 (by decide) (c:=_) Y Y (Nat.le_of_ble_eq_true Y) Y (AftOk.nil _)<|.sl (t:=0) Y fun hs1l=>.sl (t:=1) Y fun hs2l=>.seq<|.rs fun k3=>.as Y<|.z<|.seq<|.seq ?_
 refine .rs fun k4=>.mv Y<|.g (fun _ τ=>⟨_,.len (.no Y) Y (z:=(a.length:Int)) t42 Y Y Y (.d _ _) (map_len _ _) Y τ⟩)<|.mv Y<|.g (fun _ τ=>⟨_,.len (.no Y) Y (z:=(b.length:Int)) t42 Y Y Y (.d _ _) (map_len _ _) Y τ⟩)<|.bi Y<|.z ?_
 refine .cond (t:=(a.length:Int) != (b.length:Int)) Y (fun c0=>?_) (fun c0=>?_)
 ·have c0:=(by simpa using c0:¬ ((a.length:Int)=(b.length:Int)))
  refine .seq<|.rs fun k5=>.as Y<|.z<|.ret ?_
  exact fin0 (.inr Y) (.one (svB (show (false)=(all2 intEq a b) by exact (all2_ne _ (by simpa using c0)).symm)) .nil) (.dd .nil) Y
 ·have c0:=(by simpa using c0:(a.length:Int)=(b.length:Int))
  refine .skip<|.seq<|.seq<|.rs fun k7=>.mv Y<|.g (fun _ τ=>⟨_,.len (.no Y) Y (z:=(a.length:Int)) t42 Y Y Y (.d _ _) (map_len _ _) Y τ⟩)<|.mv Y<|.z<|.block ?_
  refine .loop (X:=Nat) (fun ζ=>.of [(0,.one (.d (.sl false 2 1 (List.map i64c (a))))),(1,.one (.d (.sl false 2 1 (List.map i64c (b))))),(12,.one (.d (.v (.int .i64 ((a.length:Int)))))),(13,.one (.d (.v (.int .i64 ((ζ:Int))))))] []) (fun ζ=>ζ≤a.length∧a.length=b.length∧allTo ζ (fun i=>intEq (a.getD i default) (b.getD i default))=true) (fun ζ=>a.length - ζ) ?_ ?_
  ·skip
   exact .here 0 (.of (.cons Y (.cons Y (.cons Y (.cons (svI (show (0)=((0:Int)) by first | rfl | omega | exact wrap_le (by omega) (by omega) | (rw [wrap_le (by omega) (by omega)]; omega))) .nil)))) .nil) (show 0≤a.length∧a.length=b.length∧allTo 0 (fun i=>intEq (a.getD i default) (b.getD i default))=true by exact ⟨by omega,by (first | omega | (simp at c0; omega)),rfl⟩)
  ·rintro j hI
   have hI:j≤a.length∧a.length=b.length∧allTo j (fun i=>intEq (a.getD i default) (b.getD i default))=true:=hI
   refine .seq<|.rs fun k8=>.bi Y<|.z<|.seq ?_
   refine .cond (t:=decide ((j:Int) < (a.length:Int))) Y (fun c1=>?_) (fun c1=>?_)
   ·have c1:=of_decide_eq_true c1
    refine .skip<|.seq<|.block<|.seq<|.rs fun k9=>.mv Y<|.as Y<|.z<|.seq ?_
    refine .regD (X:=Unit) (by kernel_rfl) (fun ζ=>.of [(0,.one (.d (.sl false 2 1 (List.map i64c (a))))),(1,.one (.d (.sl false 2 1 (List.map i64c (b))))),(12,.one (.d (.v (.int .i64 ((a.length:Int)))))),(13,.one (.d (.v (.int .i64 ((j:Int)))))),(24,.one (.d (.v (.bool ((a.getD j default) != (b.getD j default))))))] []) [⟨[0],some 16,[],[]⟩,⟨[5],some 17,[],[]⟩,⟨[16,17],some 18,[],[]⟩,⟨[18],some 19,[],[]⟩,⟨[1],some 20,[],[]⟩,⟨[5],some 21,[],[]⟩,⟨[20,21],some 22,[],[]⟩,⟨[22],some 23,[],[]⟩,⟨[19,23],some 24,[],[]⟩] (by kernel_rfl) (fun k10=>?_) ?_
    ·skip
     refine .move (.no Y) Y Y Y Y<|.move (.no Y) Y Y Y Y<|.indexAddr (.no Y) Y (j) t42 Y t2 Y Y Y (.d _ _) Y Y Y (map_get (by omega)) Y Y<|.load (.no Y) Y t2 Y Y (.d _) Y Y Y Y<|.move (.no Y) Y Y Y Y<|.move (.no Y) Y Y Y Y<|.indexAddr (.no Y) Y (j) t42 Y t2 Y Y Y (.d _ _) Y Y Y (map_get (by omega)) Y Y<|.load (.no Y) Y t2 Y Y (.d _) Y Y Y Y<|.bin (.no Y) Y Y Y Y Y Y ?_
     exact .fin () (.of (.r Y) .nil)
    intro _
    refine .cond (t:=(a.getD j default) != (b.getD j default)) Y (fun c2=>?_) (fun c2=>?_)
    ·have c2:=(by simpa using c2:¬ ((a.getD j default)=(b.getD j default)))
     refine .seq<|.rs fun k11=>.as Y<|.z<|.ret ?_
     exact fin0 (.inr Y) (.one (svB (show (false)=(all2 intEq a b) by exact (all2_fail _ (j:=j) (by omega) (by simpa [intEq] using c2)).symm)) .nil) (.dd .nil) Y
    ·have c2:=(by simpa using c2:(a.getD j default)=(b.getD j default))
     refine .skip<|.rs fun k13=>.bi Y<|.mv Y<|.z ?_
     exact .here (j+1) (.of (.cons Y (.cons Y (.cons Y (.cons (svI (show (IntKind.wrap .i64 ((j:Int)+1))=(((j+1):Int)) by first | rfl | omega | exact wrap_le (by omega) (by omega) | (rw [wrap_le (by omega) (by omega)]; omega))) .nil)))) .nil) ⟨(show (j+1)≤a.length∧a.length=b.length∧allTo (j+1) (fun i=>intEq (a.getD i default) (b.getD i default))=true by exact ⟨by omega,by omega,allTo_step hI.2.2 (by simpa [intEq] using c2)⟩),(show a.length - (j+1) < a.length - j by omega)⟩
   ·have c1:=of_decide_eq_false c1
    refine .exit<|.seq<|.rs fun k14=>.as Y<|.z<|.ret ?_
    exact fin0 (.inr Y) (.one (svB (show (true)=(all2 intEq a b) by (have hj:j=a.length:=(by omega); subst hj; exact (all2_done _ hI.2.1 hI.2.2).symm))) .nil) (.dd .nil) Y
end Go.Proofs

namespace Go.Proofs
open Go Go.Proofs Go.Ev

theorem c_kindOf (d:Decl) (l:List Tok):Trip Tryd.prog 38 [(true,3),(false,1)] (Decl.c36 d++[.sl false 40 2 (List.map Tok.c (l))]) [(false,1)] [.v (.int .i64 (Expr.kind d l))] []:=by
 refine Trip.of Tryd.func38 (by decide) (c:=_) Y Y (Nat.le_of_ble_eq_true Y) Y (AftOk.nil _)<|.sla (t:=0) 0 Y Y fun hs1l=>.sla (t:=0) 1 Y Y fun hs2l=>.sla (t:=0) 2 Y Y fun hs3l=>.sl (t:=1) Y fun hs4l=>.seq<|.rs fun k5=>.g (fun _ τ=>⟨_,.box (.no Y) Y Y Y Y Y τ⟩)<|.as Y ?_
 refine .z<|.seq<|.seq ?_
 refine .reg (X:=Unit) (fun ζ=>.of [(1,.one (.d (.sl false 40 2 (List.map Tok.c (l))))),(19,.one (.d (.v (.bool ((decide ((l.length:Int) > 40)||!(l.all (fun x0=>Tok.ok d x0))))))))] []) [⟨[1],some 10,[],[]⟩,⟨[10],some 11,[],[]⟩,⟨[11],some 12,[],[]⟩,⟨[12],some 13,[],[]⟩,⟨[13,1],some 14,[],[]⟩,⟨[13,2],some 15,[[2]],[]⟩,⟨[13,15],some 16,[],[]⟩,⟨[13,14,16],some 17,[],[]⟩,⟨[13,17],some 18,[],[]⟩,⟨[13,18],some 19,[],[]⟩] (fun k6=>?_) ?_
 ·skip
  refine .move (.no Y) Y Y Y Y<|.len (.no Y) Y (z:=(l.length:Int)) t41 Y Y Y (.d _ _) (map_len _ _) Y<|.bin (.no Y) Y Y Y Y Y Y<|.moveB (.no Y) Y Y Y Y fun b7 g1_3=>?_
  cases b7
  ·skip
   refine .move (.on Y Y Y Y Y) Y Y Y Y<|.load (.on Y Y Y Y Y) Y t36 Y Y (.ptr _ _ _ _ _ Y) Y Y Y Y<|.makeFunc (.on Y Y Y Y Y) Y Y Y Y Y<|.call (.on Y Y Y Y Y) Y [] [] (c_areAllK l 62 [(true,[.sl false 9 1 (List.map strc (d.vars)),.sl false 9 1 (List.map strc (d.flags)),.sl false 78 2 (List.map Arr.c (d.arrays))])] [] (fun x0=>Tok.ok d x0) (fun x0=>c_isTok d x0)) Y Y Y Y Y (.dd (.cons (Reads.clo1 (.cons (Reads.d _) (.cons (Reads.d _) (.cons (Reads.d _) .nil))) (.nil)).gives .nil)) Y Y (fun h=>absurd Y h) (.own [17,0] .nil) (.nil) Y Y Y (by simp) Y Y Y<|.un (.on Y Y Y Y Y) Y Y Y Y Y<|.pick (.no Y) Y Y Y Y Y ?_
   exact .fin () (.of (.cons Y (.cons (svB (show (!(l.all (fun x0=>Tok.ok d x0)))=((decide ((l.length:Int) > 40)||!(l.all (fun x0=>Tok.ok d x0)))) by first | (simp only [g1_3,Bool.true_or,Bool.false_or,Bool.true_and,Bool.false_and,Bool.not_true,Bool.not_false]; done) | (simp [g1_3]; done) | (exfalso; simp_all; done))) .nil)) .nil)
  ·skip
   refine .off Y Y Y Y Y Y Y<|.off Y Y Y Y Y Y Y<|.off Y Y Y Y Y Y Y<|.off Y Y Y Y Y Y Y<|.off Y Y Y Y Y Y Y<|.pick (.no Y) Y Y Y Y Y ?_
   exact .fin () (.of (.cons Y (.cons (svB (show (true)=((decide ((l.length:Int) > 40)||!(l.all (fun x0=>Tok.ok d x0)))) by first | (simp only [g1_3,Bool.true_or,Bool.false_or,Bool.true_and,Bool.false_and,Bool.not_true,Bool.not_false]; done) | (simp [g1_3]; done) | (exfalso; simp_all; done))) .nil)) .nil)
 intro _
 refine .cond (t:=(decide ((l.length:Int) > 40)||!(l.all (fun x0=>Tok.ok d x0)))) Y (fun c0=>?_) (fun c0=>?_)
 ·have c0:=(oT dT (nT id)) c0
  refine .seq<|.rs fun k8=>.as Y<|.z<|.ret ?_
  exact fin0 (.inr Y) (.one (svI (show (0)=(Expr.kind d l) by (rcases c0 with h | h; exact (kind_long (by omega)).symm; exact (kind_bad h).symm))) .nil) (.dd .nil) Y
 ·have c0:=(oF dF (nF id)) c0
  have ha:∀ i,i < l.length→Tok.ok d (l.getD i default)=true:=fun i hi=>List.all_eq_true.1 c0.2 _ (getD_mem hi)
  refine .skip<|.seq<|.rs fun k10=>.as Y<|.z<|.seq<|.seq<|.rs fun k11=>.mv Y ?_
  refine .g (fun _ τ=>⟨_,.len (.no Y) Y (z:=(l.length:Int)) t41 Y Y Y (.d _ _) (map_len _ _) Y τ⟩)<|.mv Y<|.z<|.block ?_
  refine .loop (X:=Nat × List Int × Nat × Nat) (fun ζ=>.of [(5,.one (.ref [51] (ζ.2.2.1))),(20,.one (.d (.sl false 40 2 (List.map Tok.c (l))))),(21,.one (.d (.v (.int .i64 ((l.length:Int)))))),(22,.one (.d (.v (.int .i64 ((ζ.1:Int))))))] [([51],(ζ.2.2.1,ζ.2.2.2,.row 2 1 (List.map i64c (ζ.2.1))))]) (fun ζ=>ζ.1≤l.length∧kdS d l ζ.1=some ζ.2.1) (fun ζ=>l.length - ζ.1) ?_ ?_
  ·skip
   refine .nilRow 5 [51] 2 1 Y fun k14=>?_
   exact .here (0,[],k14,k14) (.of (.cons Y (.cons Y (.cons Y (.cons (svI (show (0)=((0:Int)) by first | rfl | omega | exact wrap_le (by omega) (by omega) | (rw [wrap_le (by omega) (by omega)]; omega))) .nil)))) (.cons (rowE (show []=List.map i64c ([]) by first | with_reducible rfl | rfl)) .nil)) (show 0≤l.length∧kdS d l 0=some [] by exact ⟨by omega,rfl⟩)
  ·rintro ⟨j,p,q12,q13⟩ hI
   have hI:j≤l.length∧kdS d l j=some p:=hI
   have hp9:=kdS_len hI.2
   have ht9:=takesL_len (l.getD j default).op
   dsimp only
   refine .seq<|.rs fun k15=>.bi Y<|.z<|.seq ?_
   refine .cond (t:=decide ((j:Int) < (l.length:Int))) Y (fun c1=>?_) (fun c1=>?_)
   ·have c1:=of_decide_eq_true c1
    refine .skip<|.seq<|.block<|.seq<|.rs fun k16=>.g (fun _ τ=>⟨_,.indexAddr (.no Y) Y (j) t41 Y t40 Y Y Y (.d _ _) Y Y Y (map_get (by omega)) Y Y τ⟩)<|.lda t40 Y (.d _) Y<|.g (fun _ τ=>⟨_,.alloc (.no Y) Y z40 Y Y Y τ⟩)<|.g (fun _ τ=>⟨_,.store (.no Y) Y t40 Y Y Y Y Y Y Y Y Y τ⟩) ?_
    refine .z<|.seq<|.rs fun k17=>.fp t40 t2 Y<|.ld t2 Y (.ptr _ _ _ _ _ Y) Y<|.c0 (c_takes ((l.getD j default).op)) Y (.dd .nil) (.own [28,0] .nil) Y<|.as Y<|.z<|.seq ?_
    refine .rs fun k18=>.mv Y<|.g (fun _ τ=>⟨_,.len (.no Y) Y (z:=(p.length:Int)) t42 Y Y Y (.ref _ _ _ _ _ Y) (map_len _ _) Y τ⟩)<|.mv Y<|.g (fun _ τ=>⟨_,.len (.no Y) Y (z:=((takesL ((l.getD j default).op)).length:Int)) t42 Y Y Y (.d _ _) (map_len _ _) Y τ⟩)<|.g (fun _ τ=>⟨_,.binN (.no Y) Y (show IntKind.wrap .i64 ((p.length:Int) - ((takesL ((l.getD j default).op)).length:Int))=(p.length:Int) - ((takesL (l.getD j default).op).length:Int) by (exact wrap_le (by omega) (by omega))) Y Y Y Y Y τ⟩)<|.as Y<|.z<|.seq ?_
    refine .seq ?_
    refine .reg (X:=Unit) (fun ζ=>.of [(5,.one (.ref [51] (q12))),(7,.one (.ptr [7] (k16+1+1) 0)),(9,.one (.d (.v (.int .i64 ((p.length:Int) - ((takesL (l.getD j default).op).length:Int)))))),(20,.one (.d (.sl false 40 2 (List.map Tok.c (l))))),(21,.one (.d (.v (.int .i64 ((l.length:Int)))))),(22,.one (.d (.v (.int .i64 ((j:Int)))))),(43,.one (.d (.v (.bool ((decide (((p.length:Int) - ((takesL (l.getD j default).op).length:Int)) < 0)||!(all2 intEq (p.drop (((p.length:Int) - ((takesL (l.getD j default).op).length:Int)).toNat)) (takesL ((l.getD j default).op)))))))))] [([7],(k16+1+1,k16+1+1+1,.box [.d (.v (.int .i64 ((l.getD j default).op))),.d (.v (.int .i64 ((l.getD j default).n)))])),([51],(q12,q13,.row 2 1 (List.map i64c (p))))]) [⟨[9],some 34,[],[]⟩,⟨[34],some 35,[],[]⟩,⟨[35],some 36,[],[]⟩,⟨[36,5],some 37,[],[]⟩,⟨[36,9],some 38,[],[]⟩,⟨[36,37,38],some 39,[[51]],[]⟩,⟨[36,8],some 40,[],[]⟩,⟨[36,39,40],some 41,[[51]],[]⟩,⟨[36,41],some 42,[],[]⟩,⟨[36,42],some 43,[],[]⟩] (fun k19=>?_) ?_
    ·skip
     refine .move (.no Y) Y Y Y Y<|.bin (.no Y) Y Y Y Y Y Y<|.moveB (.no Y) Y Y Y Y fun b20 g9_2=>?_
     cases b20
     ·skip
      refine .move (.on Y Y Y Y Y) Y Y Y Y<|.move (.on Y Y Y Y Y) Y Y Y Y<|.slice (.on Y Y Y Y Y) Y (lv:=((p.length:Int) - ((takesL (l.getD j default).op).length:Int)).toNat) (hv:=(List.map i64c (p)).length) (m:=q13) t42 Y t2 Y Y (.ref _ _ _ _ _ Y) Y (by intro _ _ h; cases h; exact ⟨_,.head _⟩) (by exact ⟨_,nat_iv (a:=(p.length:Int) - ((takesL (l.getD j default).op).length:Int)) (by (first | omega | (have h9:=of_decide_eq_false g9_2; omega)))⟩) (by exact rfl) (le_map (by (first | omega | (have h9:=of_decide_eq_false g9_2; omega)))) (Nat.le_refl _) (cut_ref (L:=p) i64c_e) Y<|.move (.on Y Y Y Y Y) Y Y Y Y ?_
      refine .call (.on Y Y Y Y Y) Y [[51]] [([51],(q12,q13,.row 2 1 (List.map i64c (p))))] (c_EqualN (p.drop (((p.length:Int) - ((takesL (l.getD j default).op).length:Int)).toNat)) (takesL ((l.getD j default).op))) Y Y Y Y Y (.cons (Reads.view (.head _) (.head _)).gives (.dd .nil)) Y Y (fun _=>(ownCons (Owned.v _) ownNil)) (.own [41,0] .nil) (.nil) Y Y Y (AllH.get (.r Y)) Y Y Y<|.un (.on Y Y Y Y Y) Y Y Y Y Y<|.pick (.no Y) Y Y Y Y Y ?_
      exact .fin () (.of (.cons Y (.cons Y (.cons Y (.cons Y (.cons Y (.cons Y (.cons (svB (show (!(all2 intEq (p.drop (((p.length:Int) - ((takesL (l.getD j default).op).length:Int)).toNat)) (takesL ((l.getD j default).op))))=((decide (((p.length:Int) - ((takesL (l.getD j default).op).length:Int)) < 0)||!(all2 intEq (p.drop (((p.length:Int) - ((takesL (l.getD j default).op).length:Int)).toNat)) (takesL ((l.getD j default).op))))) by first | (simp only [g9_2,Bool.true_or,Bool.false_or,Bool.true_and,Bool.false_and,Bool.not_true,Bool.not_false]; done) | (simp [g9_2]; done) | (exfalso; simp_all; done))) .nil))))))) (.r Y))
     ·skip
      refine .off Y Y Y Y Y Y Y<|.off Y Y Y Y Y Y Y<|.off Y Y Y Y Y Y Y<|.off Y Y Y Y Y Y Y<|.off Y Y Y Y Y Y Y<|.off Y Y Y Y Y Y Y<|.pick (.no Y) Y Y Y Y Y ?_
      exact .fin () (.of (.cons Y (.cons Y (.cons Y (.cons Y (.cons Y (.cons Y (.cons (svB (show (true)=((decide (((p.length:Int) - ((takesL (l.getD j default).op).length:Int)) < 0)||!(all2 intEq (p.drop (((p.length:Int) - ((takesL (l.getD j default).op).length:Int)).toNat)) (takesL ((l.getD j default).op))))) by first | (simp only [g9_2,Bool.true_or,Bool.false_or,Bool.true_and,Bool.false_and,Bool.not_true,Bool.not_false]; done) | (simp [g9_2]; done) | (exfalso; simp_all; done))) .nil))))))) (.r Y))
    intro _
    refine .cond (t:=(decide (((p.length:Int) - ((takesL (l.getD j default).op).length:Int)) < 0)||!(all2 intEq (p.drop (((p.length:Int) - ((takesL (l.getD j default).op).length:Int)).toNat)) (takesL ((l.getD j default).op))))) Y (fun c2=>?_) (fun c2=>?_)
    ·have c2:=(oT dT (nT id)) c2
     have hb:kdS d l (j+1)=none:=kd_noI hI.2 (ha j (by omega)) c2
     refine .seq<|.rs fun k21=>.as Y<|.z<|.ret ?_
     exact fin0 (.inr Y) (.one (svI (show (0)=(Expr.kind d l) by (rw [kind_none (by omega) hb]))) .nil) (.dd .nil) Y
    ·have c2:=(oF dF (nF id)) c2
     refine .skip ?_
     refine .regD (X:=Nat) (by kernel_rfl) (fun ζ=>.of [(5,.one (.ref [51] (ζ))),(20,.one (.d (.sl false 40 2 (List.map Tok.c (l))))),(21,.one (.d (.v (.int .i64 ((l.length:Int)))))),(22,.one (.d (.v (.int .i64 ((j:Int))))))] [([51],(ζ,ζ,.row 2 1 (List.map i64c (p.take (((p.length:Int) - ((takesL (l.getD j default).op).length:Int)).toNat)++[leavesK ((l.getD j default).op)]))))]) [⟨[5],some 44,[],[]⟩,⟨[9],some 45,[],[]⟩,⟨[44,45],some 46,[[51]],[[51]]⟩,⟨[7],some 47,[],[]⟩,⟨[47],some 48,[[7]],[]⟩,⟨[48],some 49,[],[]⟩,⟨[49],some 50,[],[[50]]⟩,⟨[46,50],some 51,[[51],[50]],[[50],[51]]⟩,⟨[51],some 5,[],[]⟩] (by kernel_rfl) (fun k23=>?_) ?_
     ·skip
      refine .move (.no Y) Y Y Y Y<|.move (.no Y) Y Y Y Y<|.trim (.no Y) Y (hv:=((p.length:Int) - ((takesL (l.getD j default).op).length:Int)).toNat) (els':=List.map i64c (p.take (((p.length:Int) - ((takesL (l.getD j default).op).length:Int)).toNat))) t42 Y t2 Y Y Y Y (by exact ⟨_,nat_iv (a:=(p.length:Int) - ((takesL (l.getD j default).op).length:Int)) (by (first | omega | (have h9:=of_decide_eq_false g9_2; omega)))⟩) (le_map (by (first | omega | (have h9:=of_decide_eq_false g9_2; omega)))) (by rw [List.map_take]) Y<|.fieldAddrP (.no Y) Y t40 Y Y t2 Y Y Y Y<|.load (.no Y) Y t2 Y Y (.ptr _ _ _ _ _ Y) Y Y Y Y ?_
      refine .call (.no Y) Y [] [] (c_leaves1 ((l.getD j default).op)) Y Y Y Y Y (.dd .nil) Y Y (fun h=>absurd Y h) (.own [49,0] .nil) (.nil) Y Y Y (by simp) Y Y Y<|.buildSlice (.no Y) Y (els:=[[.v (.int .i64 (leavesK ((l.getD j default).op)))]]) t42 Y z2 Y Y Y Y Y Y Y Y (by simp [i2]) (.cons _ _ _ _ _ _ (.d _) .nil) Y Y Y<|.append (.no Y) Y (l3:=List.map i64c (p.take (((p.length:Int) - ((takesL (l.getD j default).op).length:Int)).toNat)++[leavesK ((l.getD j default).op)])) t42 Y z2 Y Y Y Y Y Y Y Y (.ref _ _ _ _ Y) (.take _ _ _ _ _ Y) Y (by first | (simp [i2]; omega) | (simp [i3]; omega)) (map_snoc _ _ _) Y Y<|.assign (.no Y) Y Y Y Y ?_
      exact .fin (k23+1+1+1+1+1+1+1) (.of (.r Y) (.r Y))
     intro g24
     refine .rs fun k25=>.bi Y<|.mv Y<|.z ?_
     exact .here ((j+1),(p.take ((p.length:Int) - ((takesL (l.getD j default).op).length:Int)).toNat++[leavesK (l.getD j default).op]),g24,g24) (.of (.cons Y (.cons Y (.cons Y (.cons (svI (show (IntKind.wrap .i64 ((j:Int)+1))=(((j+1):Int)) by first | rfl | omega | exact wrap_le (by omega) (by omega) | (rw [wrap_le (by omega) (by omega)]; omega))) .nil)))) (.cons (rowE (show List.map i64c (p.take (((p.length:Int) - ((takesL (l.getD j default).op).length:Int)).toNat)++[leavesK ((l.getD j default).op)])=List.map i64c ((p.take ((p.length:Int) - ((takesL (l.getD j default).op).length:Int)).toNat++[leavesK (l.getD j default).op])) by first | with_reducible rfl | rfl)) .nil)) ⟨(show (j+1)≤l.length∧kdS d l (j+1)=some (p.take ((p.length:Int) - ((takesL (l.getD j default).op).length:Int)).toNat++[leavesK (l.getD j default).op]) by exact ⟨by omega,kd_goI hI.2 (ha j (by omega)) c2⟩),(show l.length - (j+1) < l.length - j by omega)⟩
   ·have c1:=of_decide_eq_false c1
    refine .exit<|.seq<|.seq<|.rs fun k26=>.mv Y<|.g (fun _ τ=>⟨_,.len (.no Y) Y (z:=(p.length:Int)) t42 Y Y Y (.ref _ _ _ _ _ Y) (map_len _ _) Y τ⟩)<|.bi Y<|.z ?_
    refine .cond (t:=(p.length:Int) != 1) Y (fun c3=>?_) (fun c3=>?_)
    ·have c3:=(by simpa using c3:¬ ((p.length:Int)=1))
     refine .seq<|.rs fun k27=>.as Y<|.z<|.ret ?_
     exact fin0 (.inr Y) (.one (svI (show (0)=(Expr.kind d l) by (rw [kind_many (by omega) hI.2 (by omega)]))) .nil) (.dd .nil) Y
    ·have c3:=(by simpa using c3:(p.length:Int)=1)
     refine .skip<|.seq<|.rs fun k29=>.mv Y<|.g (fun _ τ=>⟨_,.indexAddr (.no Y) Y (0) t42 Y t2 Y Y Y (.ref _ _ _ _ _ Y) Y Y Y (map_get (by omega)) Y Y τ⟩)<|.ld t2 Y (.eptr _ _ _ _ _ _ _ _ _ Y (map_get (by omega))) Y<|.as Y<|.z<|.ret ?_
     exact fin0 (.inr Y) (.one (svI (show (p.getD 0 default)=(Expr.kind d l) by (rw [kind_one (by omega) (by omega) hI.2 (by omega)]))) .nil) (.dd .nil) Y
end Go.Proofs

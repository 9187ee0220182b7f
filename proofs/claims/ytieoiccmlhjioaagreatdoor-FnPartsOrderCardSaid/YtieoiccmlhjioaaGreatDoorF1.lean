/- Contracts of the program's functions at this seat, printed by a program of ours and checked by Lean: each under the conditions of its own statement. -/
import Derived.Test.YtieoiccmlhjioaaGreatDoorE4
import Derived.Test.YtieoiccmlhjioaaGreatDoorE5
import Derived.Test.YtieoiccmlhjioaaGreatDoorProg
import Derived.Test.YtieoiccmlhjioaaGreatDoorShelf
set_option linter.all false
set_option linter.unnecessarySimpa false
set_option linter.unusedSectionVars false
set_option linter.unusedSimpArgs false
set_option linter.unusedVariables false
namespace Go.Proofs
theorem Y.{u} {α : Sort u} {a : α} : a = a := rfl
open Go Go.Proofs Go.Ev
instance:Lay:=⟨[(0,(List.range 256).map fun c=>.v (.int .u8 (if Lib.isSp (UInt8.ofNat c) then 1 else 0)))]⟩

def Iv.c (x:Iv):List D:=[.v (.int .i64 (x.lo)),.v (.int .i64 (x.hi))]
theorem Iv.c_o (x:Iv):∀ d∈Iv.c x,Owned d:=by simp [Iv.c,Owned.v]
theorem Iv.c_e (x:Iv):(Iv.c x).map D.erase=Iv.c x:=by simp [Iv.c,D.erase_v]
def strc (x:ByteArray):List D:=[.v (.string x)]
theorem strc_e (x:ByteArray):(strc x).map D.erase=strc x:=by simp [strc,D.erase_v]
theorem strc_o (x:ByteArray):∀ d∈strc x,Owned d:=by simp [strc,Owned.v]
def Env.c98 (x:Env):List D:=[.v (.bool (x.live)),.sl false 119 2 (List.map Iv.c (x.ints)),.sl false 119 2 (List.map Iv.c (x.arrs))]
theorem Env.c98_e (x:Env):(Env.c98 x).map D.erase=Env.c98 x:=by simp [Env.c98,D.erase_v,erase_slo _ _ _ _ _ _ Iv.c_e]
def Env.co98 (x:Env):List D:=[.v (.bool (x.live)),.sl true 119 2 (List.map Iv.c (x.ints)),.sl true 119 2 (List.map Iv.c (x.arrs))]
theorem Env.co98_e (x:Env):(Env.co98 x).map D.erase=Env.c98 x:=by simp [Env.co98,Env.c98,D.erase_v,erase_slo _ _ _ _ _ _ Iv.c_e]
theorem Env.co98_o (x:Env):∀ d∈Env.co98 x,Owned d:=by simp [Env.co98,Owned.v,Owned.map _ _ _ _ Iv.c_o]
def i2:TI:=⟨.int .i64,1,8,[.int .i64 0]⟩
theorem t2:TyOk Tryz.prog 2 i2:=⟨Tryz.underlying2,by kernel_rfl⟩
theorem z2:ZOk Tryz.prog 2 i2:=⟨t2,rfl⟩
def i4:TI:=⟨.bool,1,1,[.bool false]⟩
theorem t4:TyOk Tryz.prog 4 i4:=⟨Tryz.underlying4,by kernel_rfl⟩
theorem z4:ZOk Tryz.prog 4 i4:=⟨t4,rfl⟩
def i9:TI:=⟨.str,1,16,[.string .empty]⟩
theorem t9:TyOk Tryz.prog 9 i9:=⟨Tryz.underlying9,by kernel_rfl⟩
theorem z9:ZOk Tryz.prog 9 i9:=⟨t9,rfl⟩
def i22:TI:=⟨.sl 9,1,24,[.slice none 0 0]⟩
theorem t22:TyOk Tryz.prog 22 i22:=⟨Tryz.underlying22,by kernel_rfl⟩
theorem z22:ZOk Tryz.prog 22 i22:=⟨t22,rfl⟩
def i96:TI:=⟨.sl 119,1,24,[.slice none 0 0]⟩
theorem t96:TyOk Tryz.prog 96 i96:=⟨Tryz.underlying96,by kernel_rfl⟩
theorem z96:ZOk Tryz.prog 96 i96:=⟨t96,rfl⟩
def i98:TI:=⟨.st [(0,4),(1,96),(2,96)],3,56,[.bool false,.slice none 0 0,.slice none 0 0]⟩
theorem t98:TyOk Tryz.prog 98 i98:=⟨⟨_,Tryz.underlying98,rfl⟩,by kernel_rfl⟩
theorem z98:ZOk Tryz.prog 98 i98:=⟨t98,rfl⟩
theorem p98:Places Tryz.prog [(0,4),(1,96),(2,96)] [(0,1),(1,1),(2,1)]:=by unfold Places; kernel_rfl
def i119:TI:=⟨.st [(0,2),(1,2)],2,16,[.int .i64 0,.int .i64 0]⟩
theorem t119:TyOk Tryz.prog 119 i119:=⟨⟨_,Tryz.underlying119,rfl⟩,by kernel_rfl⟩
theorem z119:ZOk Tryz.prog 119 i119:=⟨t119,rfl⟩
theorem p119:Places Tryz.prog [(0,2),(1,2)] [(0,1),(1,1)]:=by unfold Places; kernel_rfl
theorem c_l1In (n:Int) (lo:Int) (hi:Int):Trip Tryz.prog 77 [(false,1),(false,1),(false,1)] ([.v (.int .i64 (n))]++[.v (.int .i64 (lo))]++[.v (.int .i64 (hi))]) [(false,1)] [.v (.bool (inR n lo hi))] []:=by
 refine Trip.of Tryz.func77 (by decide) (c:=_) Y Y (Nat.le_of_ble_eq_true Y) Y (AftOk.nil _)<|.seq<|.rs fun k1=>.as Y<|.z<|.seq ?_
 refine .reg (X:=Unit) (fun ζ=>.of [(6,.one (.d (.v (.bool ((decide (n≥lo)&&decide (n≤hi)))))))] []) [⟨[0],some 7,[],[]⟩,⟨[1],some 8,[],[]⟩,⟨[7,8],some 9,[],[]⟩,⟨[9],some 10,[],[]⟩,⟨[10,0],some 11,[],[]⟩,⟨[10,2],some 12,[],[]⟩,⟨[10,11,12],some 13,[],[]⟩,⟨[10,13],some 14,[],[]⟩,⟨[14],some 6,[],[]⟩] (fun k2=>?_) ?_
 ·skip
  refine .move (.no Y) Y Y Y Y<|.move (.no Y) Y Y Y Y<|.bin (.no Y) Y Y Y Y Y Y<|.moveB (.no Y) Y Y Y Y fun b3 g1_3=>?_
  cases b3
  ·skip
   refine .off Y Y Y Y Y Y Y<|.off Y Y Y Y Y Y Y<|.off Y Y Y Y Y Y Y<|.pick (.no Y) Y Y Y Y Y<|.assign (.no Y) Y Y Y Y ?_
   exact .fin () (.of (.cons (svB (show (false)=((decide (n≥lo)&&decide (n≤hi))) by first | (simp only [g1_3,Bool.true_or,Bool.false_or,Bool.true_and,Bool.false_and,Bool.not_true,Bool.not_false]; done) | (simp [g1_3]; done) | (exfalso; simp_all; done))) .nil) .nil)
  ·skip
   refine .move (.on Y Y Y Y Y) Y Y Y Y<|.move (.on Y Y Y Y Y) Y Y Y Y<|.bin (.on Y Y Y Y Y) Y Y Y Y Y Y<|.pick (.no Y) Y Y Y Y Y<|.assign (.no Y) Y Y Y Y ?_
   exact .fin () (.of (.cons (svB (show (decide (n≤hi))=((decide (n≥lo)&&decide (n≤hi))) by first | (simp only [g1_3,Bool.true_or,Bool.false_or,Bool.true_and,Bool.false_and,Bool.not_true,Bool.not_false]; done) | (simp [g1_3]; done) | (exfalso; simp_all; done))) .nil) .nil)
 intro _
 refine .ret ?_
 exact fin0 (.inr Y) (.one (svB (show ((decide (n≥lo)&&decide (n≤hi)))=(inR n lo hi) by (first | rfl | simp_all [inR]))) .nil) (.dd .nil) Y
theorem c_sIvOk (a:Iv):Trip Tryz.prog 169 [(true,2)] (Iv.c a) [(false,1)] [.v (.bool (Iv.ok a))] []:=by
 refine Trip.of Tryz.func169 (by decide) (c:=_) Y Y (Nat.le_of_ble_eq_true Y) Y (AftOk.nil _)<|.seq<|.rs fun k1=>.g (fun _ τ=>⟨_,.box (.no Y) Y Y Y Y Y τ⟩)<|.as Y<|.z<|.seq<|.rs fun k2=>.fp t119 t2 Y ?_
 refine .ld t2 Y (.ptr _ _ _ _ _ Y) Y<|.fp t119 t2 Y<|.ld t2 Y (.ptr _ _ _ _ _ Y) Y<|.bi Y<|.as Y<|.z<|.ret ?_
 exact fin0 (.inr Y) (.one (svB (show (decide (a.lo≤a.hi))=(Iv.ok a) by rfl)) .nil) (.dd .nil) Y
theorem c_l2Join (a:Iv) (b:Iv):Trip Tryz.prog 211 [(true,2),(true,2)] (Iv.c a++Iv.c b) [(true,2)] [.v (.int .i64 ((Iv.join a b).lo)),.v (.int .i64 ((Iv.join a b).hi))] []:=by
 refine Trip.of Tryz.func211 (by decide) (c:=_) Y Y (Nat.le_of_ble_eq_true Y) Y (AftOk.nil _)<|.seq<|.rs fun k1=>.g (fun _ τ=>⟨_,.box (.no Y) Y Y Y Y Y τ⟩)<|.g (fun _ τ=>⟨_,.box (.no Y) Y Y Y Y Y τ⟩)<|.g (fun _ τ=>⟨_,.alloc (.no Y) Y z119 Y Y Y τ⟩)<|.z<|.seq<|.rs fun k2=>?_
 refine .fp t119 t2 Y<|.ld t2 Y (.ptr _ _ _ _ _ Y) Y<|.fp t119 t2 Y<|.ld t2 Y (.ptr _ _ _ _ _ Y) Y<|.g (fun _ τ=>⟨_,.min (.no Y) Y Y Y Y (min_of _ _) Y τ⟩)<|.fp t119 t2 Y<|.ld t2 Y (.ptr _ _ _ _ _ Y) Y<|.fp t119 t2 Y<|.ld t2 Y (.ptr _ _ _ _ _ Y) Y ?_
 refine .g (fun _ τ=>⟨_,.max (.no Y) Y Y Y Y (max_of _ _) Y τ⟩)<|.g (fun _ τ=>⟨_,.build (.no Y) Y z119 Y p119 Y Y Y Y τ⟩)<|.g (fun _ τ=>⟨_,.store (.no Y) Y t119 Y Y Y Y Y Y Y Y Y τ⟩)<|.z<|.ret ?_
 have e3:(min a.lo b.lo)=((Iv.join a b).lo):=by rfl
 have e4:(max a.hi b.hi)=((Iv.join a b).hi):=by rfl
 have hc5:=eq2 (fun z1 z2=>some (k1+1+1,k2+1+1+1+1+1+1+1+1+1+1+1,O.box [.d (.v (.int .i64 (z1))),.d (.v (.int .i64 (z2)))])) e3 e4
 exact fin0 (.inr Y) (.cell (cells:=[.d (.v (.int .i64 ((Iv.join a b).lo))),.d (.v (.int .i64 ((Iv.join a b).hi)))]) Y hc5 t119 Y Y .nil) (.dd (.dd .nil)) Y
theorem c_l3Key (s:ByteArray):Trip Tryz.prog 167 [(false,1)] ([.v (.string (s))]) [(false,1)] [.v (.bool (isKey s))] []:=by
 refine Trip.of Tryz.func167 (by decide) (c:=_) Y Y (Nat.le_of_ble_eq_true Y) Y (AftOk.nil _)<|.seq<|.rs fun k1=>.as Y<|.z<|.seq<|.rs fun k2=>?_
 refine .g (fun _ τ=>⟨_,.buildSlice (.no Y) Y (els:=[[.v (.string ((⟨#[118,97,114]⟩:ByteArray)))],[.v (.string ((⟨#[102,108,97,103]⟩:ByteArray)))],[.v (.string ((⟨#[97,114,114,97,121]⟩:ByteArray)))],[.v (.string ((⟨#[105,102]⟩:ByteArray)))],[.v (.string ((⟨#[102,111,114,107]⟩:ByteArray)))],[.v (.string ((⟨#[101,108,115,101]⟩:ByteArray)))],[.v (.string ((⟨#[101,110,100]⟩:ByteArray)))],[.v (.string ((⟨#[119,104,105,108,101]⟩:ByteArray)))],[.v (.string ((⟨#[117,110,114,111,108,108]⟩:ByteArray)))],[.v (.string ((⟨#[97,115,115,101,114,116]⟩:ByteArray)))],[.v (.string ((⟨#[97,115,115,117,109,101]⟩:ByteArray)))],[.v (.string ((⟨#[105,110,112,117,116]⟩:ByteArray)))],[.v (.string ((⟨#[115,112,108,105,116]⟩:ByteArray)))],[.v (.string ((⟨#[109,101,114,103,101]⟩:ByteArray)))],[.v (.string ((⟨#[116,114,117,101]⟩:ByteArray)))],[.v (.string ((⟨#[102,97,108,115,101]⟩:ByteArray)))]]) t22 Y z9 Y Y Y Y Y Y Y Y (by simp [i9]) (.cons _ _ _ _ _ _ (.d _) (.cons _ _ _ _ _ _ (.d _) (.cons _ _ _ _ _ _ (.d _) (.cons _ _ _ _ _ _ (.d _) (.cons _ _ _ _ _ _ (.d _) (.cons _ _ _ _ _ _ (.d _) (.cons _ _ _ _ _ _ (.d _) (.cons _ _ _ _ _ _ (.d _) (.cons _ _ _ _ _ _ (.d _) (.cons _ _ _ _ _ _ (.d _) (.cons _ _ _ _ _ _ (.d _) (.cons _ _ _ _ _ _ (.d _) (.cons _ _ _ _ _ _ (.d _) (.cons _ _ _ _ _ _ (.d _) (.cons _ _ _ _ _ _ (.d _) (.cons _ _ _ _ _ _ (.d _) .nil)))))))))))))))) Y Y Y τ⟩) ?_
 refine .as Y<|.z<|.seq<|.seq<|.rs fun k3=>.as Y<|.z<|.block ?_
 refine .loop (X:=Nat × Nat × Nat) (fun ζ=>.of [(0,.one (.d (.v (.string (s))))),(3,.one (.ref [5] (ζ.2.1))),(4,.one (.d (.v (.int .i64 ((ζ.1:Int))))))] [([5],(ζ.2.1,ζ.2.2,.row 9 1 (List.map strc (keys))))]) (fun ζ=>ζ.1≤keys.length∧allTo ζ.1 (fun i=>!strEq (keys.getD i default) s)=true) (fun ζ=>keys.length - ζ.1) ?_ ?_
 ·skip
  exact .here (0,k2,k2) (.of (.cons Y (.cons Y (.cons (svI (show (0)=((0:Int)) by first | rfl | omega | exact wrap_le (by omega) (by omega) | (rw [wrap_le (by omega) (by omega)]; omega))) .nil))) (.cons (rowE (show [[.v (.string ((⟨#[118,97,114]⟩:ByteArray)))],[.v (.string ((⟨#[102,108,97,103]⟩:ByteArray)))],[.v (.string ((⟨#[97,114,114,97,121]⟩:ByteArray)))],[.v (.string ((⟨#[105,102]⟩:ByteArray)))],[.v (.string ((⟨#[102,111,114,107]⟩:ByteArray)))],[.v (.string ((⟨#[101,108,115,101]⟩:ByteArray)))],[.v (.string ((⟨#[101,110,100]⟩:ByteArray)))],[.v (.string ((⟨#[119,104,105,108,101]⟩:ByteArray)))],[.v (.string ((⟨#[117,110,114,111,108,108]⟩:ByteArray)))],[.v (.string ((⟨#[97,115,115,101,114,116]⟩:ByteArray)))],[.v (.string ((⟨#[97,115,115,117,109,101]⟩:ByteArray)))],[.v (.string ((⟨#[105,110,112,117,116]⟩:ByteArray)))],[.v (.string ((⟨#[115,112,108,105,116]⟩:ByteArray)))],[.v (.string ((⟨#[109,101,114,103,101]⟩:ByteArray)))],[.v (.string ((⟨#[116,114,117,101]⟩:ByteArray)))],[.v (.string ((⟨#[102,97,108,115,101]⟩:ByteArray)))]]=List.map strc (keys) by rfl)) .nil)) (show 0≤keys.length∧allTo 0 (fun i=>!strEq (keys.getD i default) s)=true by exact ⟨by omega,rfl⟩)
 ·rintro ⟨j,q4,q5⟩ hI
  have hI:j≤keys.length∧allTo j (fun i=>!strEq (keys.getD i default) s)=true:=hI
  have hk9:keys.length=16:=rfl
  dsimp only
  refine .seq<|.seq<|.rs fun k6=>.mv Y<|.mv Y<|.g (fun _ τ=>⟨_,.len (.no Y) Y (z:=(keys.length:Int)) t22 Y Y Y (.ref _ _ _ _ _ Y) (map_len _ _) Y τ⟩)<|.bi Y<|.z ?_
  refine .cond (t:=decide ((j:Int) < (keys.length:Int))) Y (fun c0=>?_) (fun c0=>?_)
  ·have c0:=of_decide_eq_true c0
   refine .skip<|.seq<|.block<|.seq<|.rs fun k7=>.mv Y<|.mv Y<|.g (fun _ τ=>⟨_,.indexAddr (.no Y) Y (j) t22 Y t9 Y Y Y (.ref _ _ _ _ _ Y) Y Y Y (map_get (by omega)) Y Y τ⟩)<|.ld t9 Y (.eptr _ _ _ _ _ _ _ _ _ Y (map_get (by omega))) Y ?_
   refine .mv Y<|.bi Y<|.z ?_
   refine .cond (t:=(keys.getD j default).toList == s.toList) Y (fun c1=>?_) (fun c1=>?_)
   ·have c1:=c1
    refine .seq<|.rs fun k8=>.as Y<|.z<|.ret ?_
    exact fin0 (.inr Y) (.one (svB (show (true)=(isKey s) by exact (any_found (p:=fun x=>strEq x s) (j:=j) (by omega) c1).symm)) .nil) (.dd .nil) Y
   ·have c1:=c1
    refine .skip<|.rs fun k10=>.mv Y<|.bi Y<|.as Y<|.z ?_
    exact .here ((j+1),q4,q5) (.of (.cons Y (.cons Y (.cons (svI (show (IntKind.wrap .i64 ((j:Int)+1))=(((j+1):Int)) by first | rfl | omega | exact wrap_le (by omega) (by omega) | (rw [wrap_le (by omega) (by omega)]; omega))) .nil))) (.r Y)) ⟨(show (j+1)≤keys.length∧allTo (j+1) (fun i=>!strEq (keys.getD i default) s)=true by exact ⟨by omega,allTo_step hI.2 (by rw [show strEq (keys.getD j default) s=false from c1]; rfl)⟩),(show keys.length - (j+1) < keys.length - j by omega)⟩
  ·have c0:=of_decide_eq_false c0
   refine .exit<|.seq<|.rs fun k11=>.as Y<|.z<|.ret ?_
   exact fin0 (.inr Y) (.one (svB (show (false)=(isKey s) by exact (any_none (p:=fun x=>strEq x s) (j:=j) (by omega) hI.2).symm)) .nil) (.dd .nil) Y
theorem c_l3Name (s:ByteArray) (hs:s.size≤9223372036854775807):Trip Tryz.prog 123 [(false,1)] ([.v (.string (s))]) [(false,1)] [.v (.bool (nmOk s))] []:=by
 refine Trip.of Tryz.func123 (by decide) (c:=_) Y Y (Nat.le_of_ble_eq_true Y) Y (AftOk.nil _)<|.seq<|.rs fun k1=>.as Y<|.z<|.seq<|.seq<|.rs fun k2=>.as Y ?_
 refine .z<|.block ?_
 refine .loop (X:=Nat) (fun ζ=>.of [(0,.one (.d (.v (.string (s))))),(3,.one (.d (.v (.int .i64 ((ζ:Int))))))] []) (fun ζ=>ζ≤s.size∧allTo ζ (fun i=>decide (97≤byteAt s i∧byteAt s i≤122))=true) (fun ζ=>s.size - ζ) ?_ ?_
 ·skip
  exact .here 0 (.of (.cons Y (.cons (svI (show (0)=((0:Int)) by first | rfl | omega | exact wrap_le (by omega) (by omega) | (rw [wrap_le (by omega) (by omega)]; omega))) .nil)) .nil) (show 0≤s.size∧allTo 0 (fun i=>decide (97≤byteAt s i∧byteAt s i≤122))=true by exact ⟨by omega,rfl⟩)
 ·rintro j hI
  have hI:j≤s.size∧allTo j (fun i=>decide (97≤byteAt s i∧byteAt s i≤122))=true:=hI
  refine .seq<|.seq<|.rs fun k3=>.mv Y<|.mv Y<|.g (fun _ τ=>⟨_,.lenStr (.no Y) Y t9 Y Y Y Y Y τ⟩)<|.bi Y<|.z ?_
  refine .cond (t:=decide ((j:Int) < (s.size:Int))) Y (fun c0=>?_) (fun c0=>?_)
  ·have c0:=of_decide_eq_true c0
   refine .skip<|.seq<|.block<|.seq ?_
   refine .reg (X:=Unit) (fun ζ=>.of [(0,.one (.d (.v (.string (s))))),(3,.one (.d (.v (.int .i64 ((j:Int)))))),(19,.one (.d (.v (.bool ((decide ((byteAt s j) < 97)||decide ((byteAt s j) > 122)))))))] []) [⟨[0],some 10,[],[]⟩,⟨[3],some 11,[],[]⟩,⟨[10,11],some 12,[],[]⟩,⟨[12],some 13,[],[]⟩,⟨[13],some 14,[],[]⟩,⟨[14,0],some 15,[],[]⟩,⟨[14,3],some 16,[],[]⟩,⟨[14,15,16],some 17,[],[]⟩,⟨[14,17],some 18,[],[]⟩,⟨[14,18],some 19,[],[]⟩] (fun k4=>?_) ?_
   ·skip
    refine .move (.no Y) Y Y Y Y<|.move (.no Y) Y Y Y Y<|.indexStr (.no Y) Y (z:=byteAt s j) (j) t9 Y Y Y Y Y (b8_get (by omega)) Y Y<|.bin (.no Y) Y Y Y Y Y Y<|.moveB (.no Y) Y Y Y Y fun b5 g4_4=>?_
    cases b5
    ·skip
     refine .move (.on Y Y Y Y Y) Y Y Y Y<|.move (.on Y Y Y Y Y) Y Y Y Y<|.indexStr (.on Y Y Y Y Y) Y (z:=byteAt s j) (j) t9 Y Y Y Y Y (b8_get (by omega)) Y Y<|.bin (.on Y Y Y Y Y) Y Y Y Y Y Y<|.pick (.no Y) Y Y Y Y Y ?_
     exact .fin () (.of (.cons Y (.cons Y (.cons (svB (show (decide ((byteAt s j) > 122))=((decide ((byteAt s j) < 97)||decide ((byteAt s j) > 122))) by first | (simp only [g4_4,Bool.true_or,Bool.false_or,Bool.true_and,Bool.false_and,Bool.not_true,Bool.not_false]; done) | (simp [g4_4]; done) | (exfalso; simp_all; done))) .nil))) .nil)
    ·skip
     refine .off Y Y Y Y Y Y Y<|.off Y Y Y Y Y Y Y<|.off Y Y Y Y Y Y Y<|.off Y Y Y Y Y Y Y<|.pick (.no Y) Y Y Y Y Y ?_
     exact .fin () (.of (.cons Y (.cons Y (.cons (svB (show (true)=((decide ((byteAt s j) < 97)||decide ((byteAt s j) > 122))) by first | (simp only [g4_4,Bool.true_or,Bool.false_or,Bool.true_and,Bool.false_and,Bool.not_true,Bool.not_false]; done) | (simp [g4_4]; done) | (exfalso; simp_all; done))) .nil))) .nil)
   intro _
   refine .cond (t:=(decide ((byteAt s j) < 97)||decide ((byteAt s j) > 122))) Y (fun c1=>?_) (fun c1=>?_)
   ·have c1:=(oT dT dT) c1
    refine .seq<|.rs fun k6=>.as Y<|.z<|.ret ?_
    exact fin0 (.inr Y) (.one (svB (show (false)=(nmOk s) by (simp only [nmOk,letters]; rw [allTo_fail (j:=j) (by omega) (by have h9:=byteAt_le s j; simp only [decide_eq_false_iff_not]; omega)]; rfl))) .nil) (.dd .nil) Y
   ·have c1:=(oF dF dF) c1
    refine .skip<|.rs fun k8=>.mv Y<|.bi Y<|.as Y<|.z ?_
    exact .here (j+1) (.of (.cons Y (.cons (svI (show (IntKind.wrap .i64 ((j:Int)+1))=(((j+1):Int)) by first | rfl | omega | exact wrap_le (by omega) (by omega) | (rw [wrap_le (by omega) (by omega)]; omega))) .nil)) .nil) ⟨(show (j+1)≤s.size∧allTo (j+1) (fun i=>decide (97≤byteAt s i∧byteAt s i≤122))=true by exact ⟨by omega,allTo_step hI.2 (by simp only [decide_eq_true_eq]; omega)⟩),(show s.size - (j+1) < s.size - j by omega)⟩
  ·have c0:=of_decide_eq_false c0
   refine .exit<|.seq ?_
   refine .reg (X:=Unit) (fun ζ=>.of [(2,.one (.d (.v (.bool ((inR (s.size:Int) 1 8&&!(isKey s)))))))] []) [⟨[0],some 20,[],[]⟩,⟨[20],some 21,[],[]⟩,⟨[21],some 22,[],[]⟩,⟨[22],some 23,[],[]⟩,⟨[23,0],some 24,[],[]⟩,⟨[23,24],some 25,[],[]⟩,⟨[23,25],some 26,[],[]⟩,⟨[23,26],some 27,[],[]⟩,⟨[27],some 2,[],[]⟩] (fun k9=>?_) ?_
   ·skip
    refine .move (.no Y) Y Y Y Y<|.lenStr (.no Y) Y t9 Y Y Y Y Y<|.call (.no Y) Y [] [] (c_l1In (s.size:Int) 1 8) Y Y Y Y Y (.dd (.dd (.dd .nil))) Y Y (fun h=>absurd Y h) (.own [22,0] .nil) (.nil) Y Y Y (by simp) Y Y Y<|.moveB (.no Y) Y Y Y Y fun b10 g6_3=>?_
    cases b10
    ·skip
     refine .off Y Y Y Y Y Y Y<|.off Y Y Y Y Y Y Y<|.off Y Y Y Y Y Y Y<|.pick (.no Y) Y Y Y Y Y<|.assign (.no Y) Y Y Y Y ?_
     exact .fin () (.of (.cons (svB (show (false)=((inR (s.size:Int) 1 8&&!(isKey s))) by first | (simp only [g6_3,Bool.true_or,Bool.false_or,Bool.true_and,Bool.false_and,Bool.not_true,Bool.not_false]; done) | (simp [g6_3]; done) | (exfalso; simp_all; done))) .nil) .nil)
    ·skip
     refine .move (.on Y Y Y Y Y) Y Y Y Y<|.call (.on Y Y Y Y Y) Y [] [] (c_l3Key s) Y Y Y Y Y (.dd .nil) Y Y (fun h=>absurd Y h) (.own [25,0] .nil) (.nil) Y Y Y (by simp) Y Y Y<|.un (.on Y Y Y Y Y) Y Y Y Y Y<|.pick (.no Y) Y Y Y Y Y<|.assign (.no Y) Y Y Y Y ?_
     exact .fin () (.of (.cons (svB (show (!(isKey s))=((inR (s.size:Int) 1 8&&!(isKey s))) by first | (simp only [g6_3,Bool.true_or,Bool.false_or,Bool.true_and,Bool.false_and,Bool.not_true,Bool.not_false]; done) | (simp [g6_3]; done) | (exfalso; simp_all; done))) .nil) .nil)
   intro _
   refine .ret ?_
   exact fin0 (.inr Y) (.one (svB (show ((inR (s.size:Int) 1 8&&!(isKey s)))=(nmOk s) by (have hj:j=s.size:=(by omega); subst hj; simp only [nmOk,letters]; rw [hI.2]; first | rfl | simp_all))) .nil) (.dd .nil) Y
theorem c_l3Place (l:List ByteArray) (s:ByteArray):Trip Tryz.prog 124 [(false,1),(false,1)] ([.sl false 9 1 (List.map strc (l))]++[.v (.string (s))]) [(false,1)] [.v (.int .i64 (place l s))] []:=by
 refine Trip.of Tryz.func124 (by decide) (c:=_) Y Y (Nat.le_of_ble_eq_true Y) Y (AftOk.nil _)<|.sl (t:=0) Y fun hs1l=>.seq<|.rs fun k2=>.as Y<|.z<|.seq<|.seq<|.rs fun k3=>?_
 refine .as Y<|.z<|.block ?_
 refine .loop (X:=Nat) (fun ζ=>.of [(0,.one (.d (.sl false 9 1 (List.map strc (l))))),(1,.one (.d (.v (.string (s))))),(5,.one (.d (.v (.int .i64 ((ζ:Int))))))] []) (fun ζ=>ζ≤l.length∧allTo ζ (fun i=>!strEq (l.getD i default) s)=true) (fun ζ=>l.length - ζ) ?_ ?_
 ·skip
  exact .here 0 (.of (.cons Y (.cons Y (.cons (svI (show (0)=((0:Int)) by first | rfl | omega | exact wrap_le (by omega) (by omega) | (rw [wrap_le (by omega) (by omega)]; omega))) .nil))) .nil) (show 0≤l.length∧allTo 0 (fun i=>!strEq (l.getD i default) s)=true by exact ⟨by omega,rfl⟩)
 ·rintro j hI
  have hI:j≤l.length∧allTo j (fun i=>!strEq (l.getD i default) s)=true:=hI
  refine .seq<|.seq<|.rs fun k4=>.mv Y<|.mv Y<|.g (fun _ τ=>⟨_,.len (.no Y) Y (z:=(l.length:Int)) t22 Y Y Y (.d _ _) (map_len _ _) Y τ⟩)<|.bi Y<|.z ?_
  refine .cond (t:=decide ((j:Int) < (l.length:Int))) Y (fun c0=>?_) (fun c0=>?_)
  ·have c0:=of_decide_eq_true c0
   refine .skip<|.seq<|.block<|.seq<|.rs fun k5=>.mv Y<|.mv Y<|.g (fun _ τ=>⟨_,.indexAddr (.no Y) Y (j) t22 Y t9 Y Y Y (.d _ _) Y Y Y (map_get (by omega)) Y Y τ⟩)<|.ld t9 Y (.d _) Y ?_
   refine .mv Y<|.bi Y<|.z ?_
   refine .cond (t:=(l.getD j default).toList == s.toList) Y (fun c1=>?_) (fun c1=>?_)
   ·have c1:=c1
    refine .seq<|.rs fun k6=>.mv Y<|.as Y<|.z<|.ret ?_
    exact fin0 (.inr Y) (.one (svI (show ((j:Int))=(place l s) by exact (idx_found (p:=fun x=>strEq x s) (by omega) hI.2 c1).symm)) .nil) (.dd .nil) Y
   ·have c1:=c1
    refine .skip<|.rs fun k8=>.mv Y<|.bi Y<|.as Y<|.z ?_
    exact .here (j+1) (.of (.cons Y (.cons Y (.cons (svI (show (IntKind.wrap .i64 ((j:Int)+1))=(((j+1):Int)) by first | rfl | omega | exact wrap_le (by omega) (by omega) | (rw [wrap_le (by omega) (by omega)]; omega))) .nil))) .nil) ⟨(show (j+1)≤l.length∧allTo (j+1) (fun i=>!strEq (l.getD i default) s)=true by exact ⟨by omega,allTo_step hI.2 (by rw [show strEq (l.getD j default) s=false from c1]; rfl)⟩),(show l.length - (j+1) < l.length - j by omega)⟩
  ·have c0:=of_decide_eq_false c0
   refine .exit<|.seq<|.rs fun k9=>.as Y<|.z<|.ret ?_
   exact fin0 (.inr Y) (.one (svI (show (-1)=(place l s) by exact (idx_none (p:=fun x=>strEq x s) (j:=j) (by omega) hI.2).symm)) .nil) (.dd .nil) Y
theorem c_l6List (e:Env) (hb:e.ints.length≤1048576∧e.arrs.length≤1048576):Trip Tryz.prog 168 [(true,3)] (Env.c98 e) [(false,1)] [.sl true 119 2 (List.map Iv.c (e.ints++e.arrs))] []:=by
 refine Trip.of Tryz.func168 (by decide) (c:=_) Y Y (Nat.le_of_ble_eq_true Y) Y (AftOk.nil _)<|.sla (t:=0) 1 Y Y fun hs1l=>.sla (t:=0) 2 Y Y fun hs2l=>.seq<|.rs fun k3=>.g (fun _ τ=>⟨_,.box (.no Y) Y Y Y Y Y τ⟩)<|.as Y<|.z<|.seq ?_
 refine .regD (X:=Nat) (by kernel_rfl) (fun ζ=>.of [(2,.one (.ref [3] (ζ)))] [([3],(ζ,ζ,.row 119 2 (List.map Iv.c (e.ints++e.arrs))))]) [⟨[],some 3,[],[[3]]⟩,⟨[1],some 4,[],[]⟩,⟨[4],some 5,[[1]],[]⟩,⟨[3,5],some 6,[[3]],[[3]]⟩,⟨[1],some 7,[],[]⟩,⟨[7],some 8,[[1]],[]⟩,⟨[6,8],some 9,[[3]],[[3]]⟩,⟨[9],some 2,[],[]⟩] (by kernel_rfl) (fun k4=>?_) ?_
 ·skip
  refine .buildSlice (.no Y) Y (els:=[]) t96 Y z119 Y Y Y Y Y Y Y Y (by simp [i119]) .nil Y Y Y<|.fieldAddrP (.no Y) Y t98 Y Y t96 Y Y Y Y<|.load (.no Y) Y t96 Y Y (.ptr _ _ _ _ _ Y) Y Y Y Y<|.append (.no Y) Y (l3:=List.map Iv.c (e.ints)) t96 Y z119 Y Y Y Y Y Y Y Y (.ref _ _ _ _ Y) (.ro _ _) Y (by simp [i119]; omega) (List.nil_append _) Y Y<|.fieldAddrP (.no Y) Y t98 Y Y t96 Y Y Y Y<|.load (.no Y) Y t96 Y Y (.ptr _ _ _ _ _ Y) Y Y Y Y<|.append (.no Y) Y (l3:=List.map Iv.c (e.ints++e.arrs)) t96 Y z119 Y Y Y Y Y Y Y Y (.ref _ _ _ _ Y) (.ro _ _) Y (by simp [i119]; omega) (map_app _ _ _) Y Y<|.assign (.no Y) Y Y Y Y ?_
  exact .fin (k4+1+1+1+1+1+1) (.of (.r Y) (.r Y))
 intro g5
 refine .ret ?_
 exact fin1 (.inr Y) [] [([3],(g5,g5,.row 119 2 (List.map Iv.c (e.ints++e.arrs))))] (.one Y .nil) (.cons (.ref (.head _)) .nil) Y Y (.r Y)
theorem c_l6Copy (e:Env) (hb:e.ints.length≤1048576∧e.arrs.length≤1048576):Trip Tryz.prog 140 [(true,3)] (Env.c98 e) [(true,3)] [.v (.bool (e.live)),.sl true 119 2 (List.map Iv.c (e.ints)),.sl true 119 2 (List.map Iv.c (e.arrs))] []:=by
 refine Trip.of Tryz.func140 (by decide) (c:=_) Y Y (Nat.le_of_ble_eq_true Y) Y (AftOk.nil _)<|.sla (t:=0) 1 Y Y fun hs1l=>.sla (t:=0) 2 Y Y fun hs2l=>.seq<|.rs fun k3=>.g (fun _ τ=>⟨_,.box (.no Y) Y Y Y Y Y τ⟩)<|.g (fun _ τ=>⟨_,.alloc (.no Y) Y z98 Y Y Y τ⟩)<|.z<|.seq ?_
 refine .regD (X:=Nat × Nat × Nat) (by kernel_rfl) (fun ζ=>.of [(2,.one (.ptr [2] (k3+1) 0))] [([2],(k3+1,ζ.1,.box [.d (.v (.bool (e.live))),.ref [5] (ζ.2.1),.ref [9] (ζ.2.2)])),([5],(ζ.2.1,ζ.2.1,.row 119 2 (List.map Iv.c (e.ints)))),([9],(ζ.2.2,ζ.2.2,.row 119 2 (List.map Iv.c (e.arrs))))]) [⟨[1],some 3,[],[]⟩,⟨[3],some 4,[[1]],[]⟩,⟨[],some 5,[],[[5]]⟩,⟨[1],some 6,[],[]⟩,⟨[6],some 7,[[1]],[]⟩,⟨[5,7],some 8,[[5]],[[5]]⟩,⟨[],some 9,[],[[9]]⟩,⟨[1],some 10,[],[]⟩,⟨[10],some 11,[[1]],[]⟩,⟨[9,11],some 12,[[9]],[[9]]⟩,⟨[4,8,12],some 13,[],[]⟩,⟨[2,13],none,[[2]],[[2]]⟩] (by kernel_rfl) (fun k4=>?_) ?_
 ·skip
  refine .fieldAddrP (.no Y) Y t98 Y Y t4 Y Y Y Y<|.load (.no Y) Y t4 Y Y (.ptr _ _ _ _ _ Y) Y Y Y Y<|.buildSlice (.no Y) Y (els:=[]) t96 Y z119 Y Y Y Y Y Y Y Y (by simp [i119]) .nil Y Y Y<|.fieldAddrP (.no Y) Y t98 Y Y t96 Y Y Y Y<|.load (.no Y) Y t96 Y Y (.ptr _ _ _ _ _ Y) Y Y Y Y<|.append (.no Y) Y (l3:=List.map Iv.c (e.ints)) t96 Y z119 Y Y Y Y Y Y Y Y (.ref _ _ _ _ Y) (.ro _ _) Y (by simp [i119]; omega) (List.nil_append _) Y Y<|.buildSlice (.no Y) Y (els:=[]) t96 Y z119 Y Y Y Y Y Y Y Y (by simp [i119]) .nil Y Y Y<|.fieldAddrP (.no Y) Y t98 Y Y t96 Y Y Y Y<|.load (.no Y) Y t96 Y Y (.ptr _ _ _ _ _ Y) Y Y Y Y ?_
  refine .append (.no Y) Y (l3:=List.map Iv.c (e.arrs)) t96 Y z119 Y Y Y Y Y Y Y Y (.ref _ _ _ _ Y) (.ro _ _) Y (by simp [i119]; omega) (List.nil_append _) Y Y<|.build (.no Y) Y z98 Y p98 Y Y Y Y<|.store (.no Y) Y t98 Y Y Y Y Y Y Y Y Y ?_
  exact .fin (k4+1+1+1+1+1+1+1+1+1+1+1,k4+1+1+1+1+1,k4+1+1+1+1+1+1+1+1+1) (.of (.r Y) (.r Y))
 rintro ⟨g5,g6,g7⟩
 refine .ret ?_
 exact fin1 (.inr Y) [] [([5],(g6,g6,.row 119 2 (List.map Iv.c (e.ints)))),([9],(g7,g7,.row 119 2 (List.map Iv.c (e.arrs))))] (.cell (cells:=[.d (.v (.bool (e.live))),.ref [5] (g6),.ref [9] (g7)]) Y Y t98 Y Y .nil) (.dd (.cons (.ref (.head _)) (.cons (.ref (.tail _ (.head _))) .nil))) Y Y (.r Y)
end Go.Proofs

namespace Go.Proofs
open Go Go.Proofs Go.Ev

def Arr.c (x:Arr):List D:=[.v (.string (x.name)),.v (.int .i64 (x.size))]
theorem Arr.c_o (x:Arr):∀ d∈Arr.c x,Owned d:=by simp [Arr.c,Owned.v]
theorem Arr.c_e (x:Arr):(Arr.c x).map D.erase=Arr.c x:=by simp [Arr.c,D.erase_v]
def Decl.c33 (x:Decl):List D:=[.sl false 9 1 (List.map strc (x.vars)),.sl false 9 1 (List.map strc (x.flags)),.sl false 112 2 (List.map Arr.c (x.arrays))]
theorem Decl.c33_e (x:Decl):(Decl.c33 x).map D.erase=Decl.c33 x:=by simp [Decl.c33,D.erase_v,erase_slo _ _ _ _ _ _ strc_e,erase_slo _ _ _ _ _ _ Arr.c_e]
def Decl.co33 (x:Decl):List D:=[.sl true 9 1 (List.map strc (x.vars)),.sl true 9 1 (List.map strc (x.flags)),.sl true 112 2 (List.map Arr.c (x.arrays))]
theorem Decl.co33_e (x:Decl):(Decl.co33 x).map D.erase=Decl.c33 x:=by simp [Decl.co33,Decl.c33,D.erase_v,erase_slo _ _ _ _ _ _ strc_e,erase_slo _ _ _ _ _ _ Arr.c_e]
theorem Decl.co33_o (x:Decl):∀ d∈Decl.co33 x,Owned d:=by simp [Decl.co33,Owned.v,Owned.map _ _ _ _ strc_o,Owned.map _ _ _ _ Arr.c_o]
def i31:TI:=⟨.sl 112,1,24,[.slice none 0 0]⟩
theorem t31:TyOk Tryz.prog 31 i31:=⟨Tryz.underlying31,by kernel_rfl⟩
theorem z31:ZOk Tryz.prog 31 i31:=⟨t31,rfl⟩
def i33:TI:=⟨.st [(0,22),(1,22),(2,31)],3,72,[.slice none 0 0,.slice none 0 0,.slice none 0 0]⟩
theorem t33:TyOk Tryz.prog 33 i33:=⟨⟨_,Tryz.underlying33,rfl⟩,by kernel_rfl⟩
theorem z33:ZOk Tryz.prog 33 i33:=⟨t33,rfl⟩
theorem p33:Places Tryz.prog [(0,22),(1,22),(2,31)] [(0,1),(1,1),(2,1)]:=by unfold Places; kernel_rfl
def i112:TI:=⟨.st [(0,9),(1,2)],2,24,[.string .empty,.int .i64 0]⟩
theorem t112:TyOk Tryz.prog 112 i112:=⟨⟨_,Tryz.underlying112,rfl⟩,by kernel_rfl⟩
theorem z112:ZOk Tryz.prog 112 i112:=⟨t112,rfl⟩
theorem p112:Places Tryz.prog [(0,9),(1,2)] [(0,1),(1,1)]:=by unfold Places; kernel_rfl
theorem c_sDeclOk (d:Decl) (hs:∀ x∈Decl.names d,x.size≤9223372036854775807) (hb:d.vars.length≤1048576∧d.flags.length≤1048576∧d.arrays.length≤1048576):Trip Tryz.prog 73 [(true,3)] (Decl.c33 d) [(false,1)] [.v (.bool (Decl.ok d))] []:=by
 refine Trip.of Tryz.func73 (by decide) (c:=_) Y Y (Nat.le_of_ble_eq_true Y) Y (AftOk.nil _)<|.sla (t:=0) 0 Y Y fun hs1l=>.sla (t:=0) 1 Y Y fun hs2l=>.sla (t:=0) 2 Y Y fun hs3l=>.seq<|.rs fun k4=>.g (fun _ τ=>⟨_,.box (.no Y) Y Y Y Y Y τ⟩)<|.as Y<|.z ?_
 refine .seq<|.seq ?_
 refine .reg (X:=Unit) (fun ζ=>.of [(1,.one (.ptr [1] (k4) 0)),(21,.one (.d (.v (.bool (((decide ((d.vars.length:Int) > 5)||decide ((d.flags.length:Int) > 3))||decide ((d.arrays.length:Int) > 2)))))))] [([1],(k4,k4,.box [.d (.sl false 9 1 (List.map strc (d.vars))),.d (.sl false 9 1 (List.map strc (d.flags))),.d (.sl false 112 2 (List.map Arr.c (d.arrays)))]))]) [⟨[1],some 6,[],[]⟩,⟨[6],some 7,[[1]],[]⟩,⟨[7],some 8,[],[]⟩,⟨[8],some 9,[],[]⟩,⟨[9],some 10,[],[]⟩,⟨[10,1],some 11,[],[]⟩,⟨[10,11],some 12,[[1]],[]⟩,⟨[10,12],some 13,[],[]⟩,⟨[10,13],some 14,[],[]⟩,⟨[10,14],some 15,[],[]⟩,⟨[15],some 16,[],[]⟩,⟨[16,1],some 17,[],[]⟩,⟨[16,17],some 18,[[1]],[]⟩,⟨[16,18],some 19,[],[]⟩,⟨[16,19],some 20,[],[]⟩,⟨[16,20],some 21,[],[]⟩] (fun k5=>?_) ?_
 ·skip
  refine .fieldAddrP (.no Y) Y t33 Y Y t22 Y Y Y Y<|.load (.no Y) Y t22 Y Y (.ptr _ _ _ _ _ Y) Y Y Y Y<|.len (.no Y) Y (z:=(d.vars.length:Int)) t22 Y Y Y (.d _ _) (map_len _ _) Y<|.bin (.no Y) Y Y Y Y Y Y<|.moveB (.no Y) Y Y Y Y fun b6 g1_4=>?_
  cases b6
  ·skip
   refine .fieldAddrP (.on Y Y Y Y Y) Y t33 Y Y t22 Y Y Y Y<|.load (.on Y Y Y Y Y) Y t22 Y Y (.ptr _ _ _ _ _ Y) Y Y Y Y<|.len (.on Y Y Y Y Y) Y (z:=(d.flags.length:Int)) t22 Y Y Y (.d _ _) (map_len _ _) Y<|.bin (.on Y Y Y Y Y) Y Y Y Y Y Y<|.pick (.no Y) Y Y Y Y Y<|.moveB (.no Y) Y Y Y Y fun b7 g1_10=>?_
   cases b7
   ·skip
    refine .fieldAddrP (.on Y Y Y Y Y) Y t33 Y Y t31 Y Y Y Y<|.load (.on Y Y Y Y Y) Y t31 Y Y (.ptr _ _ _ _ _ Y) Y Y Y Y<|.len (.on Y Y Y Y Y) Y (z:=(d.arrays.length:Int)) t31 Y Y Y (.d _ _) (map_len _ _) Y<|.bin (.on Y Y Y Y Y) Y Y Y Y Y Y<|.pick (.no Y) Y Y Y Y Y ?_
    exact .fin () (.of (.cons Y (.cons (svB (show (decide ((d.arrays.length:Int) > 2))=(((decide ((d.vars.length:Int) > 5)||decide ((d.flags.length:Int) > 3))||decide ((d.arrays.length:Int) > 2))) by first | (simp only [g1_4,g1_10,Bool.true_or,Bool.false_or,Bool.true_and,Bool.false_and,Bool.not_true,Bool.not_false]; done) | (simp [g1_4,g1_10]; done) | (exfalso; simp_all; done))) .nil)) (.r Y))
   ·skip
    refine .off Y Y Y Y Y Y Y<|.off Y Y Y Y Y Y Y<|.off Y Y Y Y Y Y Y<|.off Y Y Y Y Y Y Y<|.pick (.no Y) Y Y Y Y Y ?_
    exact .fin () (.of (.cons Y (.cons (svB (show (true)=(((decide ((d.vars.length:Int) > 5)||decide ((d.flags.length:Int) > 3))||decide ((d.arrays.length:Int) > 2))) by first | (simp only [g1_4,g1_10,Bool.true_or,Bool.false_or,Bool.true_and,Bool.false_and,Bool.not_true,Bool.not_false]; done) | (simp [g1_4,g1_10]; done) | (exfalso; simp_all; done))) .nil)) (.r Y))
  ·skip
   refine .off Y Y Y Y Y Y Y<|.off Y Y Y Y Y Y Y<|.off Y Y Y Y Y Y Y<|.off Y Y Y Y Y Y Y<|.pick (.no Y) Y Y Y Y Y<|.move (.no Y) Y Y Y Y<|.off Y Y Y Y Y Y Y<|.off Y Y Y Y Y Y Y<|.off Y Y Y Y Y Y Y ?_
   refine .off Y Y Y Y Y Y Y<|.pick (.no Y) Y Y Y Y Y ?_
   exact .fin () (.of (.cons Y (.cons (svB (show (true)=(((decide ((d.vars.length:Int) > 5)||decide ((d.flags.length:Int) > 3))||decide ((d.arrays.length:Int) > 2))) by first | (simp only [g1_4,Bool.true_or,Bool.false_or,Bool.true_and,Bool.false_and,Bool.not_true,Bool.not_false]; done) | (simp [g1_4]; done) | (exfalso; simp_all; done))) .nil)) (.r Y))
 intro _
 refine .cond (t:=((decide ((d.vars.length:Int) > 5)||decide ((d.flags.length:Int) > 3))||decide ((d.arrays.length:Int) > 2))) Y (fun c0=>?_) (fun c0=>?_)
 ·have c0:=(oT (oT dT dT) dT) c0
  refine .seq<|.rs fun k8=>.as Y<|.z<|.ret ?_
  exact fin0 (.inr Y) (.one (svB (show (false)=(Decl.ok d) by exact (Decl.ok_ne (by omega)).symm)) .nil) (.dd .nil) Y
 ·have c0:=(oF (oF dF dF) dF) c0
  refine .skip<|.seq ?_
  refine .regD (X:=Nat) (by kernel_rfl) (fun ζ=>.of [(1,.one (.ptr [1] (k4) 0)),(3,.one (.ref [22] (ζ)))] [([1],(k4,k4,.box [.d (.sl false 9 1 (List.map strc (d.vars))),.d (.sl false 9 1 (List.map strc (d.flags))),.d (.sl false 112 2 (List.map Arr.c (d.arrays)))])),([22],(ζ,ζ,.row 9 1 (List.map strc (d.vars++d.flags))))]) [⟨[],some 22,[],[[22]]⟩,⟨[1],some 23,[],[]⟩,⟨[23],some 24,[[1]],[]⟩,⟨[22,24],some 25,[[22]],[[22]]⟩,⟨[1],some 26,[],[]⟩,⟨[26],some 27,[[1]],[]⟩,⟨[25,27],some 28,[[22]],[[22]]⟩,⟨[28],some 3,[],[]⟩] (by kernel_rfl) (fun k10=>?_) ?_
  ·skip
   refine .buildSlice (.no Y) Y (els:=[]) t22 Y z9 Y Y Y Y Y Y Y Y (by simp [i9]) .nil Y Y Y<|.fieldAddrP (.no Y) Y t33 Y Y t22 Y Y Y Y<|.load (.no Y) Y t22 Y Y (.ptr _ _ _ _ _ Y) Y Y Y Y<|.append (.no Y) Y (l3:=List.map strc (d.vars)) t22 Y z9 Y Y Y Y Y Y Y Y (.ref _ _ _ _ Y) (.ro _ _) Y (by simp [i9]; omega) (List.nil_append _) Y Y<|.fieldAddrP (.no Y) Y t33 Y Y t22 Y Y Y Y<|.load (.no Y) Y t22 Y Y (.ptr _ _ _ _ _ Y) Y Y Y Y<|.append (.no Y) Y (l3:=List.map strc (d.vars++d.flags)) t22 Y z9 Y Y Y Y Y Y Y Y (.ref _ _ _ _ Y) (.ro _ _) Y (by simp [i9]; omega) (map_app _ _ _) Y Y<|.assign (.no Y) Y Y Y Y ?_
   exact .fin (k10+1+1+1+1+1+1) (.of (.r Y) (.r Y))
  intro g11
  refine .seq<|.seq<|.rs fun k12=>.as Y<|.z<|.block ?_
  refine .loop (X:=Nat × Nat × Nat) (fun ζ=>.of [(1,.one (.ptr [1] (k4) 0)),(3,.one (.ref [22] (ζ.2.1))),(4,.one (.d (.v (.int .i64 ((ζ.1:Int))))))] [([1],(k4,k4,.box [.d (.sl false 9 1 (List.map strc (d.vars))),.d (.sl false 9 1 (List.map strc (d.flags))),.d (.sl false 112 2 (List.map Arr.c (d.arrays)))])),([22],(ζ.2.1,ζ.2.2,.row 9 1 (List.map strc (d.vars++d.flags++(d.arrays.take ζ.1).map Arr.name))))]) (fun ζ=>ζ.1≤d.arrays.length∧allTo ζ.1 (fun i=>inR (d.arrays.getD i default).size 1 16)=true) (fun ζ=>d.arrays.length - ζ.1) ?_ ?_
  ·skip
   exact .here (0,g11,g11) (.of (.cons Y (.cons Y (.cons (svI (show (0)=((0:Int)) by first | rfl | omega | exact wrap_le (by omega) (by omega) | (rw [wrap_le (by omega) (by omega)]; omega))) .nil))) (.cons Y (.cons (rowE (show List.map strc (d.vars++d.flags)=List.map strc (d.vars++d.flags++(d.arrays.take 0).map Arr.name) by first | (simp; done) | (rw [List.append_assoc (d.vars++d.flags),take_step (f:=Arr.name) (by omega)]) | (simp only [Decl.names]; rw [List.take_of_length_le (by omega)]))) .nil))) (show 0≤d.arrays.length∧allTo 0 (fun i=>inR (d.arrays.getD i default).size 1 16)=true by exact ⟨by omega,rfl⟩)
  ·rintro ⟨j,q13,q14⟩ hI
   have hI:j≤d.arrays.length∧allTo j (fun i=>inR (d.arrays.getD i default).size 1 16)=true:=hI
   dsimp only
   refine .seq<|.seq<|.rs fun k15=>.mv Y<|.fp t33 t31 Y<|.ld t31 Y (.ptr _ _ _ _ _ Y) Y<|.g (fun _ τ=>⟨_,.len (.no Y) Y (z:=(d.arrays.length:Int)) t31 Y Y Y (.d _ _) (map_len _ _) Y τ⟩)<|.bi Y<|.z ?_
   refine .cond (t:=decide ((j:Int) < (d.arrays.length:Int))) Y (fun c1=>?_) (fun c1=>?_)
   ·have c1:=of_decide_eq_true c1
    refine .skip<|.seq<|.block<|.seq<|.seq<|.rs fun k16=>.fp t33 t31 Y<|.ld t31 Y (.ptr _ _ _ _ _ Y) Y<|.mv Y ?_
    refine .g (fun _ τ=>⟨_,.indexAddr (.no Y) Y (j) t31 Y t112 Y Y Y (.d _ _) Y Y Y (map_get (by omega)) Y Y τ⟩)<|.g (fun _ τ=>⟨_,.fieldAddr (.no Y) Y t112 Y Y t2 Y Y Y Y [] (by simp) (by intro _ _ _ h; cases h) Y Y τ⟩)<|.ld t2 Y (.d _) Y<|.c0 (c_l1In ((d.arrays.getD j default).size) 1 16) Y (.dd (.dd (.dd .nil))) (.own [42,0] .nil) Y<|.un Y<|.z ?_
    refine .cond (t:=!(inR ((d.arrays.getD j default).size) 1 16)) Y (fun c2=>?_) (fun c2=>?_)
    ·have c2:=(nT id) c2
     refine .seq<|.rs fun k17=>.as Y<|.z<|.ret ?_
     exact fin0 (.inr Y) (.one (svB (show (false)=(Decl.ok d) by exact (Decl.ok_size (j:=j) (by omega) c2).symm)) .nil) (.dd .nil) Y
    ·have c2:=(nF id) c2
     refine .skip<|.rs fun k19=>.mv Y<|.fp t33 t31 Y<|.ld t31 Y (.ptr _ _ _ _ _ Y) Y<|.mv Y<|.g (fun _ τ=>⟨_,.indexAddr (.no Y) Y (j) t31 Y t112 Y Y Y (.d _ _) Y Y Y (map_get (by omega)) Y Y τ⟩)<|.g (fun _ τ=>⟨_,.fieldAddr (.no Y) Y t112 Y Y t9 Y Y Y Y [] (by simp) (by intro _ _ _ h; cases h) Y Y τ⟩)<|.ld t9 Y (.d _) Y ?_
     refine .g (fun _ τ=>⟨_,.buildSlice (.no Y) Y (els:=[[.v (.string ((d.arrays.getD j default).name))]]) t22 Y z9 Y Y Y Y Y Y Y Y (by simp [i9]) (.cons _ _ _ _ _ _ (.d _) .nil) Y Y Y τ⟩)<|.g (fun _ τ=>⟨_,.append (.no Y) Y (l3:=List.map strc (d.vars++d.flags++(d.arrays.take j).map Arr.name++[(d.arrays.getD j default).name])) t22 Y z9 Y Y Y Y Y Y Y Y (.ref _ _ _ _ Y) (.take _ _ _ _ _ Y) Y (by simp [i9]; omega) (map_snoc _ _ _) Y Y τ⟩)<|.as Y<|.z<|.rs fun k20=>.mv Y<|.bi Y<|.as Y<|.z ?_
     exact .here ((j+1),(k19+1+1+1+1+1+1+1+1),(k19+1+1+1+1+1+1+1+1)) (.of (.cons Y (.cons (by show SV.one (.ref [22] (k19+1+1+1+1+1+1+1+1))=SV.one (.ref [22] ((k19+1+1+1+1+1+1+1+1))); first | rfl | simp_all) (.cons (svI (show (IntKind.wrap .i64 ((j:Int)+1))=(((j+1):Int)) by first | rfl | omega | exact wrap_le (by omega) (by omega) | (rw [wrap_le (by omega) (by omega)]; omega))) .nil))) (.cons Y (.cons (rowE (show List.map strc (d.vars++d.flags++(d.arrays.take j).map Arr.name++[(d.arrays.getD j default).name])=List.map strc (d.vars++d.flags++(d.arrays.take (j+1)).map Arr.name) by first | (simp; done) | (rw [List.append_assoc (d.vars++d.flags),take_step (f:=Arr.name) (by omega)]) | (simp only [Decl.names]; rw [List.take_of_length_le (by omega)]))) .nil))) ⟨(show (j+1)≤d.arrays.length∧allTo (j+1) (fun i=>inR (d.arrays.getD i default).size 1 16)=true by exact ⟨by omega,allTo_step hI.2 (by simpa using c2)⟩),(show d.arrays.length - (j+1) < d.arrays.length - j by omega)⟩
   ·have c1:=of_decide_eq_false c1
    refine .exit<|.seq<|.seq<|.rs fun k21=>.as Y<|.z<|.block ?_
    refine .loop (X:=Nat × Nat × Nat) (fun ζ=>.of [(3,.one (.ref [22] (ζ.2.1))),(5,.one (.d (.v (.int .i64 ((ζ.1:Int))))))] [([22],(ζ.2.1,ζ.2.2,.row 9 1 (List.map strc (Decl.names d))))]) (fun ζ=>ζ.1≤(Decl.names d).length∧allTo ζ.1 (nameOk (Decl.names d))=true) (fun ζ=>(Decl.names d).length - ζ.1) ?_ ?_
    ·skip
     exact .here (0,q13,q14) (.of (.cons Y (.cons (svI (show (0)=((0:Int)) by first | rfl | omega | exact wrap_le (by omega) (by omega) | (rw [wrap_le (by omega) (by omega)]; omega))) .nil)) (.cons (rowE (show List.map strc (d.vars++d.flags++(d.arrays.take j).map Arr.name)=List.map strc (Decl.names d) by first | (simp; done) | (rw [List.append_assoc (d.vars++d.flags),take_step (f:=Arr.name) (by omega)]) | (simp only [Decl.names]; rw [List.take_of_length_le (by omega)]))) .nil)) (show 0≤(Decl.names d).length∧allTo 0 (nameOk (Decl.names d))=true by exact ⟨by omega,rfl⟩)
    ·rintro ⟨i,q22,q23⟩ hI
     have hI:i≤(Decl.names d).length∧allTo i (nameOk (Decl.names d))=true:=hI
     have hI0:=‹j≤d.arrays.length∧_›
     have hn9:(Decl.names d).length≤3145728:=by simp [Decl.names]; omega
     dsimp only
     refine .seq<|.seq<|.rs fun k24=>.mv Y<|.mv Y<|.g (fun _ τ=>⟨_,.len (.no Y) Y (z:=((Decl.names d).length:Int)) t22 Y Y Y (.ref _ _ _ _ _ Y) (map_len _ _) Y τ⟩)<|.bi Y<|.z ?_
     refine .cond (t:=decide ((i:Int) < ((Decl.names d).length:Int))) Y (fun c3=>?_) (fun c3=>?_)
     ·have c3:=of_decide_eq_true c3
      refine .skip<|.seq<|.block<|.seq ?_
      refine .regD (X:=Unit) (by kernel_rfl) (fun ζ=>.of [(3,.one (.ref [22] (q22))),(5,.one (.d (.v (.int .i64 ((i:Int)))))),(75,.one (.d (.v (.bool ((!(nmOk ((Decl.names d).getD (i) default))||decide ((place ((Decl.names d).take i) ((Decl.names d).getD (i) default))≥0)))))))] [([22],(q22,q23,.row 9 1 (List.map strc (Decl.names d))))]) [⟨[3],some 59,[],[]⟩,⟨[5],some 60,[],[]⟩,⟨[59,60],some 61,[[22]],[]⟩,⟨[61],some 62,[[22]],[]⟩,⟨[62],some 63,[],[]⟩,⟨[63],some 64,[],[]⟩,⟨[64],some 65,[],[]⟩,⟨[65,3],some 66,[],[]⟩,⟨[65,5],some 67,[],[]⟩,⟨[65,66,67],some 68,[[22]],[]⟩,⟨[65,3],some 69,[],[]⟩,⟨[65,5],some 70,[],[]⟩,⟨[65,69,70],some 71,[[22]],[]⟩,⟨[65,71],some 72,[[22]],[]⟩,⟨[65,68,72],some 73,[[22]],[]⟩,⟨[65,73],some 74,[],[]⟩,⟨[65,74],some 75,[],[]⟩] (by kernel_rfl) (fun k25=>?_) ?_
      ·skip
       refine .move (.no Y) Y Y Y Y<|.move (.no Y) Y Y Y Y<|.indexAddr (.no Y) Y (i) t22 Y t9 Y Y Y (.ref _ _ _ _ _ Y) Y Y Y (map_get (by omega)) Y Y<|.load (.no Y) Y t9 Y Y (.eptr _ _ _ _ _ _ _ _ _ Y (map_get (by omega))) Y Y Y Y<|.call (.no Y) Y [] [] (c_l3Name ((Decl.names d).getD (i) default) (by exact hs _ (getD_mem (by omega)))) Y Y Y Y Y (.dd .nil) Y Y (fun h=>absurd Y h) (.own [63,0] .nil) (.nil) Y Y Y (by simp) Y Y Y<|.un (.no Y) Y Y Y Y Y<|.moveB (.no Y) Y Y Y Y fun b26 g13_6=>?_
       cases b26
       ·skip
        refine .move (.on Y Y Y Y Y) Y Y Y Y<|.move (.on Y Y Y Y Y) Y Y Y Y<|.slice (.on Y Y Y Y Y) Y (lv:=0) (hv:=i) (m:=q23) t22 Y t9 Y Y (.ref _ _ _ _ _ Y) Y (by intro _ _ h; cases h; exact ⟨_,.head _⟩) (by exact rfl) (by exact ⟨_,rfl⟩) (Nat.zero_le _) (le_map (by omega)) Y Y<|.move (.on Y Y Y Y Y) Y Y Y Y<|.move (.on Y Y Y Y Y) Y Y Y Y<|.indexAddr (.on Y Y Y Y Y) Y (i) t22 Y t9 Y Y Y (.ref _ _ _ _ _ Y) Y Y Y (map_get (by omega)) Y Y<|.load (.on Y Y Y Y Y) Y t9 Y Y (.eptr _ _ _ _ _ _ _ _ _ Y (map_get (by omega))) Y Y Y Y ?_
        refine .call (.on Y Y Y Y Y) Y [[22]] [([22],(q22,q23,.row 9 1 (List.map strc (Decl.names d))))] (c_l3Place ((Decl.names d).take i) ((Decl.names d).getD (i) default)) Y Y Y Y Y (.cons (Reads.cut (Frz.of_erase (erase_takeo _ _ _ _ _ _ strc_e)) (le_map (by omega)) (.head _) (.head _)).gives (.dd .nil)) Y Y (fun _=>(ownCons (Owned.v _) ownNil)) (.own [73,0] .nil) (.nil) Y Y Y (AllH.get (.r Y)) Y Y Y<|.bin (.on Y Y Y Y Y) Y Y Y Y Y Y<|.pick (.no Y) Y Y Y Y Y ?_
        exact .fin () (.of (.cons Y (.cons Y (.cons (svB (show (decide ((place ((Decl.names d).take i) ((Decl.names d).getD (i) default))≥0))=((!(nmOk ((Decl.names d).getD (i) default))||decide ((place ((Decl.names d).take i) ((Decl.names d).getD (i) default))≥0))) by first | (simp only [g13_6,Bool.true_or,Bool.false_or,Bool.true_and,Bool.false_and,Bool.not_true,Bool.not_false]; done) | (simp [g13_6]; done) | (exfalso; simp_all; done))) .nil))) (.r Y))
       ·skip
        refine .off Y Y Y Y Y Y Y<|.off Y Y Y Y Y Y Y<|.off Y Y Y Y Y Y Y<|.off Y Y Y Y Y Y Y<|.off Y Y Y Y Y Y Y<|.off Y Y Y Y Y Y Y<|.off Y Y Y Y Y Y Y<|.off Y Y Y Y Y Y Y<|.off Y Y Y Y Y Y Y ?_
        refine .pick (.no Y) Y Y Y Y Y ?_
        exact .fin () (.of (.cons Y (.cons Y (.cons (svB (show (true)=((!(nmOk ((Decl.names d).getD (i) default))||decide ((place ((Decl.names d).take i) ((Decl.names d).getD (i) default))≥0))) by first | (simp only [g13_6,Bool.true_or,Bool.false_or,Bool.true_and,Bool.false_and,Bool.not_true,Bool.not_false]; done) | (simp [g13_6]; done) | (exfalso; simp_all; done))) .nil))) (.r Y))
      intro _
      refine .cond (t:=(!(nmOk ((Decl.names d).getD (i) default))||decide ((place ((Decl.names d).take i) ((Decl.names d).getD (i) default))≥0))) Y (fun c4=>?_) (fun c4=>?_)
      ·have c4:=(oT (nT id) dT) c4
       refine .seq<|.rs fun k27=>.as Y<|.z<|.ret ?_
       exact fin0 (.inr Y) (.one (svB (show (false)=(Decl.ok d) by exact (Decl.ok_name (j:=i) (by omega) c4).symm)) .nil) (.dd .nil) Y
      ·have c4:=(oF (nF id) dF) c4
       refine .skip<|.rs fun k29=>.mv Y<|.bi Y<|.as Y<|.z ?_
       exact .here ((i+1),q22,q23) (.of (.cons Y (.cons (svI (show (IntKind.wrap .i64 ((i:Int)+1))=(((i+1):Int)) by first | rfl | omega | exact wrap_le (by omega) (by omega) | (rw [wrap_le (by omega) (by omega)]; omega))) .nil)) (.r Y)) ⟨(show (i+1)≤(Decl.names d).length∧allTo (i+1) (nameOk (Decl.names d))=true by exact ⟨by omega,allTo_step hI.2 (nameOk_of c4)⟩),(show (Decl.names d).length - (i+1) < (Decl.names d).length - i by omega)⟩
     ·have c3:=of_decide_eq_false c3
      refine .exit<|.seq<|.rs fun k30=>.as Y<|.z<|.ret ?_
      exact fin0 (.inr Y) (.one (svB (show (true)=(Decl.ok d) by exact (Decl.ok_done (by omega) hI0.2 (by omega) (j:=i) (by omega) hI.2).symm)) .nil) (.dd .nil) Y
end Go.Proofs

namespace Go.Proofs
open Go Go.Proofs Go.Ev

theorem c_sEnvOk (d:Decl) (e:Env) (hs:∀ x∈Decl.names d,x.size≤9223372036854775807) (hb:d.vars.length≤1048576∧d.flags.length≤1048576∧d.arrays.length≤1048576) (he:e.ints.length≤1048576∧e.arrs.length≤1048576):Trip Tryz.prog 126 [(true,3),(true,3)] (Decl.c33 d++Env.c98 e) [(false,1)] [.v (.bool (Decl.ok d&&Env.okIn d e))] []:=by
 refine Trip.of Tryz.func126 (by decide) (c:=_) Y Y (Nat.le_of_ble_eq_true Y) Y (AftOk.nil _)<|.sla (t:=0) 0 Y Y fun hs1l=>.sla (t:=0) 1 Y Y fun hs2l=>.sla (t:=0) 2 Y Y fun hs3l=>.sla (t:=1) 1 Y Y fun hs4l=>.sla (t:=1) 2 Y Y fun hs5l=>.seq<|.rs fun k6=>.g (fun _ τ=>⟨_,.box (.no Y) Y Y Y Y Y τ⟩) ?_
 refine .g (fun _ τ=>⟨_,.box (.no Y) Y Y Y Y Y τ⟩)<|.as Y<|.z<|.seq<|.seq<|.rs fun k7=>.lda t33 Y (.ptr _ _ _ _ _ Y) Y<|.c0 (c_sDeclOk d (by first | assumption | omega) (by first | assumption | omega)) Y (.dd (.dd (.dd .nil))) (.own [8,0] .nil) Y<|.un Y ?_
 refine .z ?_
 refine .cond (t:=!(Decl.ok d)) Y (fun c0=>?_) (fun c0=>?_)
 ·have c0:=(nT id) c0
  refine .seq<|.rs fun k8=>.as Y<|.z<|.ret ?_
  exact fin0 (.inr Y) (.one (svB (show (false)=(Decl.ok d&&Env.okIn d e) by simp [c0])) .nil) (.dd .nil) Y
 ·have c0:=(nF id) c0
  refine .skip<|.seq<|.seq<|.rs fun k10=>.fp t98 t4 Y<|.ld t4 Y (.ptr _ _ _ _ _ Y) Y<|.un Y<|.z ?_
  refine .cond (t:=!e.live) Y (fun c1=>?_) (fun c1=>?_)
  ·have c1:=(nT id) c1
   refine .seq ?_
   refine .reg (X:=Unit) (fun ζ=>.of [(4,.one (.d (.v (.bool (((e.ints.length:Int) == 0&&(e.arrs.length:Int) == 0))))))] []) [⟨[3],some 13,[],[]⟩,⟨[13],some 14,[[3]],[]⟩,⟨[14],some 15,[],[]⟩,⟨[15],some 16,[],[]⟩,⟨[16],some 17,[],[]⟩,⟨[17,3],some 18,[],[]⟩,⟨[17,18],some 19,[[3]],[]⟩,⟨[17,19],some 20,[],[]⟩,⟨[17,20],some 21,[],[]⟩,⟨[17,21],some 22,[],[]⟩,⟨[22],some 4,[],[]⟩] (fun k11=>?_) ?_
   ·skip
    refine .fieldAddrP (.no Y) Y t98 Y Y t96 Y Y Y Y<|.load (.no Y) Y t96 Y Y (.ptr _ _ _ _ _ Y) Y Y Y Y<|.len (.no Y) Y (z:=(e.ints.length:Int)) t96 Y Y Y (.d _ _) (map_len _ _) Y<|.bin (.no Y) Y Y Y Y Y Y<|.moveB (.no Y) Y Y Y Y fun b12 g4_4=>?_
    cases b12
    ·skip
     refine .off Y Y Y Y Y Y Y<|.off Y Y Y Y Y Y Y<|.off Y Y Y Y Y Y Y<|.off Y Y Y Y Y Y Y<|.pick (.no Y) Y Y Y Y Y<|.assign (.no Y) Y Y Y Y ?_
     exact .fin () (.of (.cons (svB (show (false)=(((e.ints.length:Int) == 0&&(e.arrs.length:Int) == 0)) by first | (simp only [g4_4,Bool.true_or,Bool.false_or,Bool.true_and,Bool.false_and,Bool.not_true,Bool.not_false]; done) | (simp [g4_4]; done) | (exfalso; simp_all; done))) .nil) .nil)
    ·skip
     refine .fieldAddrP (.on Y Y Y Y Y) Y t98 Y Y t96 Y Y Y Y<|.load (.on Y Y Y Y Y) Y t96 Y Y (.ptr _ _ _ _ _ Y) Y Y Y Y<|.len (.on Y Y Y Y Y) Y (z:=(e.arrs.length:Int)) t96 Y Y Y (.d _ _) (map_len _ _) Y<|.bin (.on Y Y Y Y Y) Y Y Y Y Y Y<|.pick (.no Y) Y Y Y Y Y<|.assign (.no Y) Y Y Y Y ?_
     exact .fin () (.of (.cons (svB (show ((e.arrs.length:Int) == 0)=(((e.ints.length:Int) == 0&&(e.arrs.length:Int) == 0)) by first | (simp only [g4_4,Bool.true_or,Bool.false_or,Bool.true_and,Bool.false_and,Bool.not_true,Bool.not_false]; done) | (simp [g4_4]; done) | (exfalso; simp_all; done))) .nil) .nil)
   intro _
   refine .ret ?_
   exact fin0 (.inr Y) (.one (svB (show (((e.ints.length:Int) == 0&&(e.arrs.length:Int) == 0))=(Decl.ok d&&Env.okIn d e) by simp [c0,c1,Env.okIn])) .nil) (.dd .nil) Y
  ·have c1:=(nF id) c1
   refine .skip<|.seq<|.seq ?_
   refine .reg (X:=Unit) (fun ζ=>.of [(3,.one (.ptr [3] (k6+1) 0)),(38,.one (.d (.v (.bool (((e.ints.length:Int) != (d.vars.length:Int)||(e.arrs.length:Int) != (d.arrays.length:Int)))))))] [([3],(k6+1,k6+1,.box [.d (.v (.bool (e.live))),.d (.sl false 119 2 (List.map Iv.c (e.ints))),.d (.sl false 119 2 (List.map Iv.c (e.arrs)))]))]) [⟨[3],some 23,[],[]⟩,⟨[23],some 24,[[3]],[]⟩,⟨[24],some 25,[],[]⟩,⟨[2],some 26,[],[]⟩,⟨[26],some 27,[[2]],[]⟩,⟨[27],some 28,[],[]⟩,⟨[25,28],some 29,[],[]⟩,⟨[29],some 30,[],[]⟩,⟨[30,3],some 31,[],[]⟩,⟨[30,31],some 32,[[3]],[]⟩,⟨[30,32],some 33,[],[]⟩,⟨[30,2],some 34,[],[]⟩,⟨[30,34],some 35,[[2]],[]⟩,⟨[30,35],some 36,[],[]⟩,⟨[30,33,36],some 37,[],[]⟩,⟨[30,37],some 38,[],[]⟩] (fun k14=>?_) ?_
   ·skip
    refine .fieldAddrP (.no Y) Y t98 Y Y t96 Y Y Y Y<|.load (.no Y) Y t96 Y Y (.ptr _ _ _ _ _ Y) Y Y Y Y<|.len (.no Y) Y (z:=(e.ints.length:Int)) t96 Y Y Y (.d _ _) (map_len _ _) Y<|.fieldAddrP (.no Y) Y t33 Y Y t22 Y Y Y Y<|.load (.no Y) Y t22 Y Y (.ptr _ _ _ _ _ Y) Y Y Y Y<|.len (.no Y) Y (z:=(d.vars.length:Int)) t22 Y Y Y (.d _ _) (map_len _ _) Y<|.bin (.no Y) Y Y Y Y Y Y<|.moveB (.no Y) Y Y Y Y fun b15 g5_7=>?_
    cases b15
    ·skip
     refine .fieldAddrP (.on Y Y Y Y Y) Y t98 Y Y t96 Y Y Y Y<|.load (.on Y Y Y Y Y) Y t96 Y Y (.ptr _ _ _ _ _ Y) Y Y Y Y<|.len (.on Y Y Y Y Y) Y (z:=(e.arrs.length:Int)) t96 Y Y Y (.d _ _) (map_len _ _) Y<|.fieldAddrP (.on Y Y Y Y Y) Y t33 Y Y t31 Y Y Y Y<|.load (.on Y Y Y Y Y) Y t31 Y Y (.ptr _ _ _ _ _ Y) Y Y Y Y<|.len (.on Y Y Y Y Y) Y (z:=(d.arrays.length:Int)) t31 Y Y Y (.d _ _) (map_len _ _) Y<|.bin (.on Y Y Y Y Y) Y Y Y Y Y Y<|.pick (.no Y) Y Y Y Y Y ?_
     exact .fin () (.of (.cons Y (.cons (svB (show ((e.arrs.length:Int) != (d.arrays.length:Int))=(((e.ints.length:Int) != (d.vars.length:Int)||(e.arrs.length:Int) != (d.arrays.length:Int))) by first | (simp only [g5_7,Bool.true_or,Bool.false_or,Bool.true_and,Bool.false_and,Bool.not_true,Bool.not_false]; done) | (simp [g5_7]; done) | (exfalso; simp_all; done))) .nil)) (.r Y))
    ·skip
     refine .off Y Y Y Y Y Y Y<|.off Y Y Y Y Y Y Y<|.off Y Y Y Y Y Y Y<|.off Y Y Y Y Y Y Y<|.off Y Y Y Y Y Y Y<|.off Y Y Y Y Y Y Y<|.off Y Y Y Y Y Y Y<|.pick (.no Y) Y Y Y Y Y ?_
     exact .fin () (.of (.cons Y (.cons (svB (show (true)=(((e.ints.length:Int) != (d.vars.length:Int)||(e.arrs.length:Int) != (d.arrays.length:Int))) by first | (simp only [g5_7,Bool.true_or,Bool.false_or,Bool.true_and,Bool.false_and,Bool.not_true,Bool.not_false]; done) | (simp [g5_7]; done) | (exfalso; simp_all; done))) .nil)) (.r Y))
   intro _
   refine .cond (t:=((e.ints.length:Int) != (d.vars.length:Int)||(e.arrs.length:Int) != (d.arrays.length:Int))) Y (fun c2=>?_) (fun c2=>?_)
   ·have c2:=(oT bT bT) c2
    refine .seq<|.rs fun k16=>.as Y<|.z<|.ret ?_
    exact fin0 (.inr Y) (.one (svB (show (false)=(Decl.ok d&&Env.okIn d e) by simp only [c0,Env.okIn,c1]; simp; omega)) .nil) (.dd .nil) Y
   ·have c2:=(oF bF bF) c2
    refine .skip<|.seq<|.rs fun k18=>.lda t98 Y (.ptr _ _ _ _ _ Y) Y<|.c0 (c_l6List e (by first | assumption | omega)) Y (.dd (.dd (.dd .nil))) (.frz [40,0] (Frz.of_erase (erase_slo _ _ _ _ _ _ Iv.c_e)) .nil) Y<|.as Y<|.z<|.seq<|.seq ?_
    refine .rs fun k19=>.as Y<|.z<|.block ?_
    refine .loop (X:=Nat) (fun ζ=>.of [(5,.one (.d (.sl false 119 2 (List.map Iv.c (e.ints++e.arrs))))),(6,.one (.d (.v (.int .i64 ((ζ:Int))))))] []) (fun ζ=>ζ≤(e.ints++e.arrs).length∧allTo ζ (fun x=>Iv.ok ((e.ints++e.arrs).getD x default))=true) (fun ζ=>(e.ints++e.arrs).length - ζ) ?_ ?_
    ·skip
     exact .here 0 (.of (.cons Y (.cons (svI (show (0)=((0:Int)) by first | rfl | omega | exact wrap_le (by omega) (by omega) | (rw [wrap_le (by omega) (by omega)]; omega))) .nil)) .nil) (show 0≤(e.ints++e.arrs).length∧allTo 0 (fun x=>Iv.ok ((e.ints++e.arrs).getD x default))=true by exact ⟨by omega,rfl⟩)
    ·rintro j hI
     have hI:j≤(e.ints++e.arrs).length∧allTo j (fun x=>Iv.ok ((e.ints++e.arrs).getD x default))=true:=hI
     have hn9:(e.ints++e.arrs).length≤3145728:=by simp; omega
     refine .seq<|.seq<|.rs fun k20=>.mv Y<|.mv Y<|.g (fun _ τ=>⟨_,.len (.no Y) Y (z:=((e.ints++e.arrs).length:Int)) t96 Y Y Y (.d _ _) (map_len _ _) Y τ⟩)<|.bi Y<|.z ?_
     refine .cond (t:=decide ((j:Int) < ((e.ints++e.arrs).length:Int))) Y (fun c3=>?_) (fun c3=>?_)
     ·have c3:=of_decide_eq_true c3
      refine .skip<|.seq<|.block<|.seq<|.rs fun k21=>.mv Y<|.mv Y<|.g (fun _ τ=>⟨_,.indexAddr (.no Y) Y (j) t96 Y t119 Y Y Y (.d _ _) Y Y Y (map_get (by omega)) Y Y τ⟩)<|.lda t119 Y (.d _) Y ?_
      refine .c0 (c_sIvOk ((e.ints++e.arrs).getD (j) default)) Y (.dd (.dd .nil)) (.own [51,0] .nil) Y<|.un Y<|.z ?_
      refine .cond (t:=!(Iv.ok ((e.ints++e.arrs).getD (j) default))) Y (fun c4=>?_) (fun c4=>?_)
      ·have c4:=(nT id) c4
       refine .seq<|.rs fun k22=>.as Y<|.z<|.ret ?_
       exact fin0 (.inr Y) (.one (svB (show (false)=(Decl.ok d&&Env.okIn d e) by simp only [c0,Env.okIn,c1,all_none (p:=Iv.ok) (j:=j) (by omega) c4]; simp)) .nil) (.dd .nil) Y
      ·have c4:=(nF id) c4
       refine .skip<|.rs fun k24=>.mv Y<|.bi Y<|.as Y<|.z ?_
       exact .here (j+1) (.of (.cons Y (.cons (svI (show (IntKind.wrap .i64 ((j:Int)+1))=(((j+1):Int)) by first | rfl | omega | exact wrap_le (by omega) (by omega) | (rw [wrap_le (by omega) (by omega)]; omega))) .nil)) .nil) ⟨(show (j+1)≤(e.ints++e.arrs).length∧allTo (j+1) (fun x=>Iv.ok ((e.ints++e.arrs).getD x default))=true by exact ⟨by omega,allTo_step hI.2 c4⟩),(show (e.ints++e.arrs).length - (j+1) < (e.ints++e.arrs).length - j by omega)⟩
     ·have c3:=of_decide_eq_false c3
      refine .exit<|.seq<|.rs fun k25=>.as Y<|.z<|.ret ?_
      exact fin0 (.inr Y) (.one (svB (show (true)=(Decl.ok d&&Env.okIn d e) by simp only [c0,Env.okIn,c1,all_done (p:=Iv.ok) (j:=j) (by omega) hI.2]; simp; omega)) .nil) (.dd .nil) Y
theorem c_l6Of (l:List Iv) (n:Nat) (hb:n≤l.length∧l.length≤2097152):Trip Tryz.prog 212 [(false,1),(false,1)] ([.sl false 119 2 (List.map Iv.c (l))]++[.v (.int .i64 ((n:Int)))]) [(true,3)] [.v (.bool ((Env.mk true (l.take n) (l.drop n)).live)),.sl true 119 2 (List.map Iv.c ((Env.mk true (l.take n) (l.drop n)).ints)),.sl true 119 2 (List.map Iv.c ((Env.mk true (l.take n) (l.drop n)).arrs))] []:=by
 refine Trip.of Tryz.func212 (by decide) (c:=_) Y Y (Nat.le_of_ble_eq_true Y) Y (AftOk.nil _)<|.sl (t:=0) Y fun hs1l=>.seq<|.rs fun k2=>.g (fun _ τ=>⟨_,.alloc (.no Y) Y z98 Y Y Y τ⟩)<|.z<|.seq ?_
 refine .regD (X:=Nat × Nat × Nat) (by kernel_rfl) (fun ζ=>.of [(4,.one (.ptr [4] (k2) 0))] [([4],(k2,ζ.1,.box [.d (.v (.bool (true))),.ref [5] (ζ.2.1),.ref [10] (ζ.2.2)])),([5],(ζ.2.1,ζ.2.1,.row 119 2 (List.map Iv.c (l.take n)))),([10],(ζ.2.2,ζ.2.2,.row 119 2 (List.map Iv.c (l.drop n))))]) [⟨[],some 5,[],[[5]]⟩,⟨[0],some 6,[],[]⟩,⟨[1],some 7,[],[]⟩,⟨[6,7],some 8,[],[]⟩,⟨[5,8],some 9,[[5]],[[5]]⟩,⟨[],some 10,[],[[10]]⟩,⟨[0],some 11,[],[]⟩,⟨[1],some 12,[],[]⟩,⟨[11,12],some 13,[],[]⟩,⟨[10,13],some 14,[[10]],[[10]]⟩,⟨[9,14],some 15,[],[]⟩,⟨[4,15],none,[[4]],[[4]]⟩] (by kernel_rfl) (fun k3=>?_) ?_
 ·skip
  refine .buildSlice (.no Y) Y (els:=[]) t96 Y z119 Y Y Y Y Y Y Y Y (by simp [i119]) .nil Y Y Y<|.move (.no Y) Y Y Y Y<|.move (.no Y) Y Y Y Y<|.slice (.no Y) Y (lv:=0) (hv:=n) (m:=0) t96 Y t119 Y Y (.d _ _) Y (by intro _ _ h; cases h) (by exact rfl) (by exact ⟨_,rfl⟩) (Nat.zero_le _) (le_map (by omega)) (cut_d0 _ _ _ _ _ _ _ _ _) Y<|.append (.no Y) Y (l3:=List.map Iv.c (l.take n)) t96 Y z119 Y Y Y Y Y Y Y Y (.ref _ _ _ _ Y) (.ro _ _) Y (by simp [i119]; omega) (List.nil_append _) Y Y<|.buildSlice (.no Y) Y (els:=[]) t96 Y z119 Y Y Y Y Y Y Y Y (by simp [i119]) .nil Y Y Y<|.move (.no Y) Y Y Y Y<|.move (.no Y) Y Y Y Y ?_
  refine .slice (.no Y) Y (lv:=n) (hv:=(List.map Iv.c (l)).length) (m:=0) t96 Y t119 Y Y (.d _ _) Y (by intro _ _ h; cases h) (by exact ⟨_,rfl⟩) (by exact rfl) (le_map (by omega)) (Nat.le_refl _) (cut_dn _ _ _ _ _ _ _ _ _) Y<|.append (.no Y) Y (l3:=List.map Iv.c (l.drop n)) t96 Y z119 Y Y Y Y Y Y Y Y (.ref _ _ _ _ Y) (.ro _ _) Y (by simp [i119]; omega) (List.nil_append _) Y Y<|.build (.no Y) Y z98 Y p98 Y Y Y Y<|.store (.no Y) Y t98 Y Y Y Y Y Y Y Y Y ?_
  exact .fin (k3+1+1+1+1+1+1+1+1+1+1+1,k3+1+1+1+1,k3+1+1+1+1+1+1+1+1+1) (.of (.r Y) (.r Y))
 rintro ⟨g4,g5,g6⟩
 refine .ret ?_
 have e7:(true)=((Env.mk true (l.take n) (l.drop n)).live):=by rfl
 have e8:(l.take n)=((Env.mk true (l.take n) (l.drop n)).ints):=by rfl
 have e9:(l.drop n)=((Env.mk true (l.take n) (l.drop n)).arrs):=by rfl
 have hc10:=eq1 (fun z1=>some (k2,g4,O.box [.d (.v (.bool (z1))),.ref [5] (g5),.ref [10] (g6)])) e7
 exact fin1 (.inr Y) [] [([5],(g5,g5,.row 119 2 (List.map Iv.c ((Env.mk true (l.take n) (l.drop n)).ints)))),([10],(g6,g6,.row 119 2 (List.map Iv.c ((Env.mk true (l.take n) (l.drop n)).arrs))))] (.cell (cells:=[.d (.v (.bool ((Env.mk true (l.take n) (l.drop n)).live))),.ref [5] (g5),.ref [10] (g6)]) Y hc10 t98 Y Y .nil) (.dd (.cons (.ref (.head _)) (.cons (.ref (.tail _ (.head _))) .nil))) Y Y (.cons (rowE (congrArg (List.map Iv.c) e8)) (.cons (rowE (congrArg (List.map Iv.c) e9)) .nil))
theorem c_l6Join (a:Env) (b:Env) (hj:a.live=true→b.live=true→a.ints.length=b.ints.length∧a.arrs.length=b.arrs.length) (hb:a.ints.length≤1048576∧a.arrs.length≤1048576∧b.ints.length≤1048576∧b.arrs.length≤1048576):Trip Tryz.prog 185 [(true,3),(true,3)] (Env.c98 a++Env.c98 b) [(true,3)] [.v (.bool ((Env.join a b).live)),.sl true 119 2 (List.map Iv.c ((Env.join a b).ints)),.sl true 119 2 (List.map Iv.c ((Env.join a b).arrs))] []:=by
 refine Trip.of Tryz.func185 (by decide) (c:=_) Y Y (Nat.le_of_ble_eq_true Y) Y (AftOk.nil _)<|.sla (t:=0) 1 Y Y fun hs1l=>.sla (t:=0) 2 Y Y fun hs2l=>.sla (t:=1) 1 Y Y fun hs3l=>.sla (t:=1) 2 Y Y fun hs4l=>.seq<|.rs fun k5=>.g (fun _ τ=>⟨_,.box (.no Y) Y Y Y Y Y τ⟩)<|.g (fun _ τ=>⟨_,.box (.no Y) Y Y Y Y Y τ⟩) ?_
 refine .g (fun _ τ=>⟨_,.alloc (.no Y) Y z98 Y Y Y τ⟩)<|.z<|.seq<|.seq<|.rs fun k6=>.fp t98 t4 Y<|.ld t4 Y (.ptr _ _ _ _ _ Y) Y<|.un Y<|.z ?_
 refine .cond (t:=!a.live) Y (fun c0=>?_) (fun c0=>?_)
 ·have c0:=(nT id) c0
  refine .seq<|.rs fun k7=>.lda t98 Y (.ptr _ _ _ _ _ Y) Y<|.c0 (c_l6Copy b (by first | omega | (rw [zip2To_len]; simp at hI c2 ⊢; omega))) Y (.dd (.dd (.dd .nil))) (.own [13,0] (.own [13,1] (.own [13,2] .nil))) Y<|.g (fun _ τ=>⟨_,.store (.no Y) Y t98 Y Y Y Y Y Y Y Y Y τ⟩)<|.z<|.ret ?_
  have e8:(b.live)=((Env.join a b).live):=by simp [Env.join,c0]
  have e9:(b.ints)=((Env.join a b).ints):=by simp [Env.join,c0]
  have e10:(b.arrs)=((Env.join a b).arrs):=by simp [Env.join,c0]
  have hc11:=eq1 (fun z1=>some (k5+1+1,k7+1+1,O.box [.d (.v (.bool (z1))),.ref [13,1] (k7+1),.ref [13,2] (k7+1)])) e8
  exact fin1 (.inr Y) [] [([13,1],(k7+1,k7+1,.row 119 2 (List.map Iv.c ((Env.join a b).ints)))),([13,2],(k7+1,k7+1,.row 119 2 (List.map Iv.c ((Env.join a b).arrs))))] (.cell (cells:=[.d (.v (.bool ((Env.join a b).live))),.ref [13,1] (k7+1),.ref [13,2] (k7+1)]) Y hc11 t98 Y Y .nil) (.dd (.cons (.ref (.head _)) (.cons (.ref (.tail _ (.head _))) .nil))) Y Y (.cons (rowE (congrArg (List.map Iv.c) e9)) (.cons (rowE (congrArg (List.map Iv.c) e10)) .nil))
 ·have c0:=(nF id) c0
  refine .skip<|.seq<|.seq<|.rs fun k12=>.fp t98 t4 Y<|.ld t4 Y (.ptr _ _ _ _ _ Y) Y<|.un Y<|.z ?_
  refine .cond (t:=!b.live) Y (fun c1=>?_) (fun c1=>?_)
  ·have c1:=(nT id) c1
   refine .seq<|.rs fun k13=>.lda t98 Y (.ptr _ _ _ _ _ Y) Y<|.c0 (c_l6Copy a (by first | omega | (rw [zip2To_len]; simp at hI c2 ⊢; omega))) Y (.dd (.dd (.dd .nil))) (.own [18,0] (.own [18,1] (.own [18,2] .nil))) Y<|.g (fun _ τ=>⟨_,.store (.no Y) Y t98 Y Y Y Y Y Y Y Y Y τ⟩)<|.z<|.ret ?_
   have e14:(a.live)=((Env.join a b).live):=by simp [Env.join,c0,c1]
   have e15:(a.ints)=((Env.join a b).ints):=by simp [Env.join,c0,c1]
   have e16:(a.arrs)=((Env.join a b).arrs):=by simp [Env.join,c0,c1]
   have hc17:=eq1 (fun z1=>some (k5+1+1,k13+1+1,O.box [.d (.v (.bool (z1))),.ref [18,1] (k13+1),.ref [18,2] (k13+1)])) e14
   exact fin1 (.inr Y) [] [([18,1],(k13+1,k13+1,.row 119 2 (List.map Iv.c ((Env.join a b).ints)))),([18,2],(k13+1,k13+1,.row 119 2 (List.map Iv.c ((Env.join a b).arrs))))] (.cell (cells:=[.d (.v (.bool ((Env.join a b).live))),.ref [18,1] (k13+1),.ref [18,2] (k13+1)]) Y hc17 t98 Y Y .nil) (.dd (.cons (.ref (.head _)) (.cons (.ref (.tail _ (.head _))) .nil))) Y Y (.cons (rowE (congrArg (List.map Iv.c) e15)) (.cons (rowE (congrArg (List.map Iv.c) e16)) .nil))
  ·have c1:=(nF id) c1
   refine .skip<|.seq<|.rs fun k18=>.lda t98 Y (.ptr _ _ _ _ _ Y) Y<|.c0 (c_l6List a (by first | omega | (rw [zip2To_len]; simp at hI c2 ⊢; omega))) Y (.dd (.dd (.dd .nil))) (.frz [20,0] (Frz.of_erase (erase_slo _ _ _ _ _ _ Iv.c_e)) .nil) Y<|.as Y<|.z<|.seq<|.rs fun k19=>?_
   refine .lda t98 Y (.ptr _ _ _ _ _ Y) Y<|.c0 (c_l6List b (by first | omega | (rw [zip2To_len]; simp at hI c2 ⊢; omega))) Y (.dd (.dd (.dd .nil))) (.frz [22,0] (Frz.of_erase (erase_slo _ _ _ _ _ _ Iv.c_e)) .nil) Y<|.as Y<|.z<|.seq<|.rs fun k20=>.g (fun _ τ=>⟨_,.buildSlice (.no Y) Y (els:=[]) t96 Y z119 Y Y Y Y Y Y Y Y (by simp [i119]) .nil Y Y Y τ⟩)<|.as Y<|.z ?_
   refine .seq<|.seq<|.rs fun k21=>.as Y<|.z<|.block ?_
   refine .loop (X:=Nat × Nat × Nat) (fun ζ=>.of [(2,.one (.ptr [2] (k5) 0)),(4,.one (.ptr [4] (k5+1+1) 0)),(5,.one (.d (.sl false 119 2 (List.map Iv.c (a.ints++a.arrs))))),(6,.one (.d (.sl false 119 2 (List.map Iv.c (b.ints++b.arrs))))),(7,.one (.ref [23] (ζ.2.1))),(8,.one (.d (.v (.int .i64 ((ζ.1:Int))))))] [([2],(k5,k5,.box [.d (.v (.bool (a.live))),.d (.sl false 119 2 (List.map Iv.c (a.ints))),.d (.sl false 119 2 (List.map Iv.c (a.arrs)))])),([4],(k5+1+1,k5+1+1,.box [.d (.v (.bool (false))),.d (.v (.slice none 0 0)),.d (.v (.slice none 0 0))])),([23],(ζ.2.1,ζ.2.2,.row 119 2 (List.map Iv.c (zip2To Iv.join (a.ints++a.arrs) (b.ints++b.arrs) ζ.1))))]) (fun ζ=>ζ.1≤(a.ints++a.arrs).length) (fun ζ=>(a.ints++a.arrs).length - ζ.1) ?_ ?_
   ·skip
    exact .here (0,k20,k20) (.of (.cons Y (.cons Y (.cons Y (.cons Y (.cons Y (.cons (svI (show (0)=((0:Int)) by first | rfl | omega | exact wrap_le (by omega) (by omega) | (rw [wrap_le (by omega) (by omega)]; omega))) .nil)))))) (.cons Y (.cons Y (.cons (rowE (show []=List.map Iv.c (zip2To Iv.join (a.ints++a.arrs) (b.ints++b.arrs) 0) by first | rfl | exact congrArg _ (zip2To_step _ _ _ _))) .nil)))) (show 0≤(a.ints++a.arrs).length by omega)
   ·rintro ⟨j,q22,q23⟩ hI
    have hI:j≤(a.ints++a.arrs).length:=hI
    have hn9:(a.ints++a.arrs).length≤3145728:=by simp; omega
    have hn8:(a.ints++a.arrs).length=(b.ints++b.arrs).length:=by have:=hj c0 c1; simp; omega
    have hn7:=zip2To_len Iv.join (a.ints++a.arrs) (b.ints++b.arrs) j
    dsimp only
    refine .seq<|.seq<|.rs fun k24=>.mv Y<|.mv Y<|.g (fun _ τ=>⟨_,.len (.no Y) Y (z:=((a.ints++a.arrs).length:Int)) t96 Y Y Y (.d _ _) (map_len _ _) Y τ⟩)<|.bi Y<|.z ?_
    refine .cond (t:=decide ((j:Int) < ((a.ints++a.arrs).length:Int))) Y (fun c2=>?_) (fun c2=>?_)
    ·have c2:=of_decide_eq_true c2
     refine .skip<|.seq<|.block ?_
     refine .regD (X:=Nat) (by kernel_rfl) (fun ζ=>.of [(2,.one (.ptr [2] (k5) 0)),(4,.one (.ptr [4] (k5+1+1) 0)),(5,.one (.d (.sl false 119 2 (List.map Iv.c (a.ints++a.arrs))))),(6,.one (.d (.sl false 119 2 (List.map Iv.c (b.ints++b.arrs))))),(7,.one (.ref [23] (ζ))),(8,.one (.d (.v (.int .i64 ((j:Int))))))] [([2],(k5,k5,.box [.d (.v (.bool (a.live))),.d (.sl false 119 2 (List.map Iv.c (a.ints))),.d (.sl false 119 2 (List.map Iv.c (a.arrs)))])),([4],(k5+1+1,k5+1+1,.box [.d (.v (.bool (false))),.d (.v (.slice none 0 0)),.d (.v (.slice none 0 0))])),([23],(ζ,ζ,.row 119 2 (List.map Iv.c (zip2To Iv.join (a.ints++a.arrs) (b.ints++b.arrs) j++[(Iv.join ((a.ints++a.arrs).getD (j) default) ((b.ints++b.arrs).getD (j) default))]))))]) [⟨[7],some 30,[],[]⟩,⟨[5],some 31,[],[]⟩,⟨[8],some 32,[],[]⟩,⟨[31,32],some 33,[],[]⟩,⟨[33],some 34,[],[]⟩,⟨[6],some 35,[],[]⟩,⟨[8],some 36,[],[]⟩,⟨[35,36],some 37,[],[]⟩,⟨[37],some 38,[],[]⟩,⟨[34,38],some 39,[],[]⟩,⟨[39],some 40,[],[[40]]⟩,⟨[30,40],some 41,[[23],[40]],[[40],[23]]⟩,⟨[41],some 7,[],[]⟩] (by kernel_rfl) (fun k25=>?_) ?_
     ·skip
      refine .move (.no Y) Y Y Y Y<|.move (.no Y) Y Y Y Y<|.move (.no Y) Y Y Y Y<|.indexAddr (.no Y) Y (j) t96 Y t119 Y Y Y (.d _ _) Y Y Y (map_get (by omega)) Y Y<|.load (.no Y) Y t119 Y Y (.d _) Y Y Y Y<|.move (.no Y) Y Y Y Y<|.move (.no Y) Y Y Y Y<|.indexAddr (.no Y) Y (j) t96 Y t119 Y Y Y (.d _ _) Y Y Y (map_get (by omega)) Y Y<|.load (.no Y) Y t119 Y Y (.d _) Y Y Y Y ?_
      refine .call (.no Y) Y [] [] (c_l2Join ((a.ints++a.arrs).getD (j) default) ((b.ints++b.arrs).getD (j) default)) Y Y Y Y Y (.dd (.dd (.dd (.dd .nil)))) Y Y (fun h=>absurd Y h) (.own [39,0] (.own [39,1] .nil)) (.nil) Y Y Y (by simp) Y Y Y<|.buildSlice (.no Y) Y (els:=[[.v (.int .i64 ((Iv.join ((a.ints++a.arrs).getD (j) default) ((b.ints++b.arrs).getD (j) default)).lo)),.v (.int .i64 ((Iv.join ((a.ints++a.arrs).getD (j) default) ((b.ints++b.arrs).getD (j) default)).hi))]]) t96 Y z119 Y Y Y Y Y Y Y Y (by simp [i119]) (.cons _ _ _ _ _ _ (.d _) (.cons _ _ _ _ _ _ (.d _) .nil)) Y Y Y ?_
      refine .append (.no Y) Y (l3:=List.map Iv.c (zip2To Iv.join (a.ints++a.arrs) (b.ints++b.arrs) j++[(Iv.join ((a.ints++a.arrs).getD (j) default) ((b.ints++b.arrs).getD (j) default))])) t96 Y z119 Y Y Y Y Y Y Y Y (.ref _ _ _ _ Y) (.take _ _ _ _ _ Y) Y (by simp [i119]; omega) (map_snoc _ _ _) Y Y<|.assign (.no Y) Y Y Y Y ?_
      exact .fin (k25+1+1+1+1+1+1+1+1+1+1+1) (.of (.r Y) (.r Y))
     intro g26
     refine .rs fun k27=>.mv Y<|.bi Y<|.as Y<|.z ?_
     exact .here ((j+1),g26,g26) (.of (.cons Y (.cons Y (.cons Y (.cons Y (.cons Y (.cons (svI (show (IntKind.wrap .i64 ((j:Int)+1))=(((j+1):Int)) by first | rfl | omega | exact wrap_le (by omega) (by omega) | (rw [wrap_le (by omega) (by omega)]; omega))) .nil)))))) (.cons Y (.cons Y (.cons (rowE (show List.map Iv.c (zip2To Iv.join (a.ints++a.arrs) (b.ints++b.arrs) j++[(Iv.join ((a.ints++a.arrs).getD (j) default) ((b.ints++b.arrs).getD (j) default))])=List.map Iv.c (zip2To Iv.join (a.ints++a.arrs) (b.ints++b.arrs) (j+1)) by first | rfl | exact congrArg _ (zip2To_step _ _ _ _))) .nil)))) ⟨(show (j+1)≤(a.ints++a.arrs).length by omega),(show (a.ints++a.arrs).length - (j+1) < (a.ints++a.arrs).length - j by omega)⟩
    ·have c2:=of_decide_eq_false c2
     refine .exit<|.seq<|.rs fun k28=>.mv Y<|.fp t98 t96 Y<|.ld t96 Y (.ptr _ _ _ _ _ Y) Y<|.g (fun _ τ=>⟨_,.len (.no Y) Y (z:=(a.ints.length:Int)) t96 Y Y Y (.d _ _) (map_len _ _) Y τ⟩)<|.g (fun _ τ=>⟨_,.call (.no Y) Y [[23]] [([23],(q22,q23,.row 119 2 (List.map Iv.c (zip2To Iv.join (a.ints++a.arrs) (b.ints++b.arrs) j))))] (c_l6Of (zip2To Iv.join (a.ints++a.arrs) (b.ints++b.arrs) j) a.ints.length (by first | omega | (rw [zip2To_len]; simp at hI c2 ⊢; omega))) Y Y Y Y Y (.cons (Reads.ref (Frz.of_erase (erase_slo _ _ _ _ _ _ Iv.c_e)) (.head _) (.head _)).gives (.dd .nil)) Y Y (fun _=>(ownCons (Owned.v _) (ownCons (Owned.map _ _ _ _ Iv.c_o) (ownCons (Owned.map _ _ _ _ Iv.c_o) ownNil)))) (.own [46,0] (.own [46,1] (.own [46,2] .nil))) (.nil) Y Y Y (AllH.get (.r Y)) Y Y Y τ⟩) ?_
     refine .g (fun _ τ=>⟨_,.store (.no Y) Y t98 Y Y Y Y Y Y Y Y Y τ⟩)<|.z<|.ret ?_
     have e29:((Env.mk true ((zip2To Iv.join (a.ints++a.arrs) (b.ints++b.arrs) j).take a.ints.length) ((zip2To Iv.join (a.ints++a.arrs) (b.ints++b.arrs) j).drop a.ints.length)).live)=((Env.join a b).live):=by (have hj9:=hj c0 c1; first | (simp [Env.join,c0,c1]; done) | skip; simp only [Env.join,c0,c1,if_true]; first | (rw [zip2To_all Iv.join hI (by omega)]; exact zip2_take _ hj9.1) | (rw [zip2To_all Iv.join hI (by omega)]; exact zip2_drop _ hj9.1))
     have e30:((Env.mk true ((zip2To Iv.join (a.ints++a.arrs) (b.ints++b.arrs) j).take a.ints.length) ((zip2To Iv.join (a.ints++a.arrs) (b.ints++b.arrs) j).drop a.ints.length)).ints)=((Env.join a b).ints):=by (have hj9:=hj c0 c1; first | (simp [Env.join,c0,c1]; done) | skip; simp only [Env.join,c0,c1,if_true]; first | (rw [zip2To_all Iv.join hI (by omega)]; exact zip2_take _ hj9.1) | (rw [zip2To_all Iv.join hI (by omega)]; exact zip2_drop _ hj9.1))
     have e31:((Env.mk true ((zip2To Iv.join (a.ints++a.arrs) (b.ints++b.arrs) j).take a.ints.length) ((zip2To Iv.join (a.ints++a.arrs) (b.ints++b.arrs) j).drop a.ints.length)).arrs)=((Env.join a b).arrs):=by (have hj9:=hj c0 c1; first | (simp [Env.join,c0,c1]; done) | skip; simp only [Env.join,c0,c1,if_true]; first | (rw [zip2To_all Iv.join hI (by omega)]; exact zip2_take _ hj9.1) | (rw [zip2To_all Iv.join hI (by omega)]; exact zip2_drop _ hj9.1))
     have hc32:=eq1 (fun z1=>some (k5+1+1,k28+1+1+1+1+1,O.box [.d (.v (.bool (z1))),.ref [46,1] (k28+1+1+1+1),.ref [46,2] (k28+1+1+1+1)])) e29
     exact fin1 (.inr Y) [] [([46,1],(k28+1+1+1+1,k28+1+1+1+1,.row 119 2 (List.map Iv.c ((Env.join a b).ints)))),([46,2],(k28+1+1+1+1,k28+1+1+1+1,.row 119 2 (List.map Iv.c ((Env.join a b).arrs))))] (.cell (cells:=[.d (.v (.bool ((Env.join a b).live))),.ref [46,1] (k28+1+1+1+1),.ref [46,2] (k28+1+1+1+1)]) Y hc32 t98 Y Y .nil) (.dd (.cons (.ref (.head _)) (.cons (.ref (.tail _ (.head _))) .nil))) Y Y (.cons (rowE (congrArg (List.map Iv.c) e30)) (.cons (rowE (congrArg (List.map Iv.c) e31)) .nil))
end Go.Proofs

namespace Go.Proofs
open Go Go.Proofs Go.Ev

def slc22 (x:List ByteArray):List D:=[.sl false 9 1 (List.map strc (x))]
theorem slc22_e (x:List ByteArray):(slc22 x).map D.erase=slc22 x:=by simp [slc22,erase_slo _ _ _ _ _ _ strc_e]
def slco22 (x:List ByteArray):List D:=[.sl true 9 1 (List.map strc (x))]
theorem slco22_e (x:List ByteArray):(slco22 x).map D.erase=slc22 x:=by simp [slco22,slc22,erase_slo _ _ _ _ _ _ strc_e]
theorem slco22_o (x:List ByteArray):∀ d∈slco22 x,Owned d:=by simp [slco22,Owned.map _ _ _ _ strc_o]
def i3:TI:=⟨.int .i64,1,8,[.int .i64 0]⟩
theorem t3:TyOk Tryz.prog 3 i3:=⟨Tryz.underlying3,by kernel_rfl⟩
theorem z3:ZOk Tryz.prog 3 i3:=⟨t3,rfl⟩
def i211:TI:=⟨.sl 22,1,24,[.slice none 0 0]⟩
theorem t211:TyOk Tryz.prog 211 i211:=⟨Tryz.underlying211,by kernel_rfl⟩
theorem z211:ZOk Tryz.prog 211 i211:=⟨t211,rfl⟩
theorem c_Grow (n:Nat) (hn:n≤4194304):Trip Tryz.prog 202 [(false,1),(false,1)] ([.v (.slice none 0 0)]++[.v (.int .i64 ((n:Int)))]) [(false,1)] [.sl true 9 1 ([])] []:=by
 refine Trip.of Tryz.func202 (by decide) (c:=_) Y Y (Nat.le_of_ble_eq_true Y) Y (AftOk.nil _)<|.seq<|.rs fun k1=>.as Y<|.z<|.seq<|.seq<|.rs fun k2=>.mv Y ?_
 refine .bi Y<|.z ?_
 refine .cond (t:=decide ((n:Int) < 0)) Y (fun c0=>?_) (fun c0=>?_)
 ·have c0:=of_decide_eq_true c0
  exfalso; omega
 ·have c0:=of_decide_eq_false c0
  refine .skip<|.seq<|.seq<|.rs fun k3=>.mv Y<|.mv Y<|.g (fun _ τ=>⟨_,.capNil (.no Y) Y t22 Y Y Y Y τ⟩)<|.mv Y<|.g (fun _ τ=>⟨_,.len (.no Y) Y (z:=0) t22 Y Y Y (sz:=1) .nil Y Y τ⟩) ?_
  refine .bi (v:=.int .i64 (0)) Y<|.bi Y<|.as Y<|.z<|.seq<|.rs fun k4=>.mv Y<|.bi Y<|.z ?_
  refine .cond (t:=decide ((IntKind.wrap .i64 ((n:Int) - 0)) > 0)) Y (fun c1=>?_) (fun c1=>?_)
  ·have c1:=of_decide_eq_true c1
   refine .rs fun k5=>.mv Y<|.mv Y<|.g (fun _ τ=>⟨_,.capNil (.no Y) Y t22 Y Y Y Y τ⟩)<|.g (fun _ τ=>⟨_,.sliceNil (.no Y) Y t22 Y t9 Y Y (by exact rfl) (by exact ⟨_,rfl⟩) Y τ⟩)<|.mv Y<|.g (fun _ τ=>⟨_,.growNil (.no Y) Y (n0:=n) (els:=List.map strc (List.replicate n .empty)) t22 Y t3 Y z9 Y Y Y Y Y Y (by exact (wrap_le (by omega) (by omega)).trans (by omega)) (by (rw [wrap_le (by omega) (by omega)] at c1; omega)) (by simp [i9]; omega) (by omega) (rep_map _ _ _ Y) Y τ⟩)<|.mv Y<|.g (fun _ τ=>⟨_,.len (.no Y) Y (z:=0) t22 Y Y Y (sz:=1) .nil Y Y τ⟩) ?_
   refine .g (fun _ τ=>⟨_,.slice (.no Y) Y (lv:=0) (hv:=0) (m:=k5+1+1+1+1+1) t22 Y t9 Y Y (.ref _ _ _ _ _ Y) Y (by intro _ _ h; cases h; exact ⟨_,.head _⟩) (by exact rfl) (by exact ⟨_,rfl⟩) (Nat.zero_le _) (Nat.zero_le _) Y Y τ⟩)<|.as Y<|.z<|.seq<|.rs fun k6=>.mv Y<|.as Y<|.z<|.ret ?_
   exact fin1 (.inr Y) [] [([22],(k5+1+1+1+1+1,k5+1+1+1+1+1,.row 9 1 (List.map strc (List.replicate n .empty))))] (.one Y .nil) (.cons (.cut0 (.head _)) .nil) Y Y (.r Y)
  ·have c1:=of_decide_eq_false c1
   refine .skip<|.seq<|.rs fun k7=>.mv Y<|.as Y<|.z<|.ret ?_
   exact fin0 (.inr Y) (.one Y .nil) (.cons (Gives.nil' (by first | rfl | simp_all)) .nil) Y
theorem c_Concat (l:List (List ByteArray)) (hb:lens l≤4194304∧l.length≤1048576):Trip Tryz.prog 170 [(false,1)] ([.sl false 22 1 (List.map slc22 (l))]) [(false,1)] [.sl true 9 1 (List.map strc (l.flatten))] []:=by
 refine Trip.of Tryz.func170 (by decide) (c:=_) Y Y (Nat.le_of_ble_eq_true Y) Y (AftOk.nil _)<|.sl (t:=0) Y fun hs1l=>.seq<|.rs fun k2=>.as Y<|.z<|.seq<|.rs fun k3=>.as Y ?_
 refine .z<|.seq<|.seq<|.rs fun k4=>.mv Y<|.g (fun _ τ=>⟨_,.len (.no Y) Y (z:=(l.length:Int)) t211 Y Y Y (.d _ _) (map_len _ _) Y τ⟩)<|.mv Y<|.z<|.block ?_
 refine .loop (X:=Nat) (fun ζ=>.of [(0,.one (.d (.sl false 22 1 (List.map slc22 (l))))),(3,.one (.d (.v (.int .i64 ((lens (l.take ζ):Int)))))),(9,.one (.d (.sl false 22 1 (List.map slc22 (l))))),(10,.one (.d (.v (.int .i64 ((l.length:Int)))))),(11,.one (.d (.v (.int .i64 ((ζ:Int))))))] []) (fun ζ=>ζ≤l.length) (fun ζ=>l.length - ζ) ?_ ?_
 ·skip
  exact .here 0 (.of (.cons Y (.cons (svI (show (0)=((lens (l.take 0):Int)) by first | rfl | omega | exact wrap_le (by omega) (by omega) | (rw [wrap_le (by omega) (by omega)]; omega))) (.cons Y (.cons Y (.cons (svI (show (0)=((0:Int)) by first | rfl | omega | exact wrap_le (by omega) (by omega) | (rw [wrap_le (by omega) (by omega)]; omega))) .nil))))) .nil) (show 0≤l.length by omega)
 ·rintro j hI
  have hI:j≤l.length:=hI
  have hs9:=lens_take l j
  have hs8:=lens_le l (j+1)
  have hs7:=lens_le l j
  refine .seq<|.rs fun k5=>.bi Y<|.z<|.seq ?_
  refine .cond (t:=decide ((j:Int) < (l.length:Int))) Y (fun c0=>?_) (fun c0=>?_)
  ·have c0:=of_decide_eq_true c0
   refine .skip<|.seq<|.block<|.seq<|.rs fun k6=>.g (fun _ τ=>⟨_,.indexAddr (.no Y) Y (j) t211 Y t22 Y Y Y (.d _ _) Y Y Y (map_get (by omega)) Y Y τ⟩)<|.ld t22 Y (.d _) Y<|.as Y<|.z ?_
   refine .seq<|.rs fun k7=>.mv Y<|.mv Y<|.g (fun _ τ=>⟨_,.len (.no Y) Y (z:=((l.getD j default).length:Int)) t22 Y Y Y (.d _ _) (map_len _ _) Y τ⟩)<|.bi Y<|.as Y<|.z<|.seq ?_
   refine .rs fun k8=>.mv Y<|.bi Y<|.z ?_
   refine .cond (t:=decide ((IntKind.wrap .i64 ((lens (l.take j):Int)+((l.getD j default).length:Int))) < 0)) Y (fun c1=>?_) (fun c1=>?_)
   ·have c1:=of_decide_eq_true c1
    exfalso; (rw [wrap_le (by omega) (by omega)] at c1; omega)
   ·have c1:=of_decide_eq_false c1
    refine .skip<|.rs fun k9=>.bi Y<|.mv Y<|.z ?_
    exact .here (j+1) (.of (.cons Y (.cons (svI (show (IntKind.wrap .i64 ((lens (l.take j):Int)+((l.getD j default).length:Int)))=((lens (l.take (j+1)):Int)) by first | rfl | omega | exact wrap_le (by omega) (by omega) | (rw [wrap_le (by omega) (by omega)]; omega))) (.cons Y (.cons Y (.cons (svI (show (IntKind.wrap .i64 ((j:Int)+1))=(((j+1):Int)) by first | rfl | omega | exact wrap_le (by omega) (by omega) | (rw [wrap_le (by omega) (by omega)]; omega))) .nil))))) .nil) ⟨(show (j+1)≤l.length by omega),(show l.length - (j+1) < l.length - j by omega)⟩
  ·have c0:=of_decide_eq_false c0
   refine .exit<|.seq<|.rs fun k10=>.mv Y<|.c0 (c_Grow (lens (l.take j)) (by omega)) Y (.dd (.dd .nil)) (.own [24,0] .nil) Y<|.as Y<|.z<|.seq<|.seq ?_
   refine .rs fun k11=>.mv Y<|.g (fun _ τ=>⟨_,.len (.no Y) Y (z:=(l.length:Int)) t211 Y Y Y (.d _ _) (map_len _ _) Y τ⟩)<|.mv Y<|.z<|.block ?_
   refine .loop (X:=Nat × Nat × Nat) (fun ζ=>.of [(6,.one (.ref [24,0] (ζ.2.1))),(25,.one (.d (.sl false 22 1 (List.map slc22 (l))))),(26,.one (.d (.v (.int .i64 ((l.length:Int)))))),(27,.one (.d (.v (.int .i64 ((ζ.1:Int))))))] [([24,0],(ζ.2.1,ζ.2.2,.row 9 1 (List.map strc ((l.take ζ.1).flatten))))]) (fun ζ=>ζ.1≤l.length) (fun ζ=>l.length - ζ.1) ?_ ?_
   ·skip
    exact .here (0,(k10+1),(k10+1)) (.of (.cons (by show SV.one (.ref [24,0] (k10+1))=SV.one (.ref [24,0] ((k10+1))); first | rfl | simp_all) (.cons Y (.cons Y (.cons (svI (show (0)=((0:Int)) by first | rfl | omega | exact wrap_le (by omega) (by omega) | (rw [wrap_le (by omega) (by omega)]; omega))) .nil)))) (.cons (rowE (show []=List.map strc ((l.take 0).flatten) by first | (simp; done) | exact congrArg _ (take_flatten _ _))) .nil)) (show 0≤l.length by omega)
   ·rintro ⟨i,q12,q13⟩ hI
    have hI:i≤l.length:=hI
    have hs9:=lens_take l i
    have hs8:=lens_le l (i+1)
    have hs7:=lens_le l i
    dsimp only
    refine .seq<|.rs fun k14=>.bi Y<|.z<|.seq ?_
    refine .cond (t:=decide ((i:Int) < (l.length:Int))) Y (fun c2=>?_) (fun c2=>?_)
    ·have c2:=of_decide_eq_true c2
     refine .skip<|.seq<|.block<|.seq<|.rs fun k15=>.g (fun _ τ=>⟨_,.indexAddr (.no Y) Y (i) t211 Y t22 Y Y Y (.d _ _) Y Y Y (map_get (by omega)) Y Y τ⟩)<|.ld t22 Y (.d _) Y<|.as Y<|.z ?_
     refine .rs fun k16=>.mv Y<|.mv Y<|.g (fun _ τ=>⟨_,.append (.no Y) Y (l3:=List.map strc ((l.take i).flatten++l.getD i default)) t22 Y z9 Y Y Y Y Y Y Y Y (.ref _ _ _ _ Y) (.ro _ _) Y (by simp only [List.length_map,flatten_lens,i9]; omega) (map_app _ _ _) Y Y τ⟩)<|.as Y<|.z<|.rs fun k17=>.bi Y<|.mv Y ?_
     refine .z ?_
     exact .here ((i+1),(k16+1+1),(k16+1+1)) (.of (.cons (by show SV.one (.ref [24,0] (k16+1+1))=SV.one (.ref [24,0] ((k16+1+1))); first | rfl | simp_all) (.cons Y (.cons Y (.cons (svI (show (IntKind.wrap .i64 ((i:Int)+1))=(((i+1):Int)) by first | rfl | omega | exact wrap_le (by omega) (by omega) | (rw [wrap_le (by omega) (by omega)]; omega))) .nil)))) (.cons (rowE (show List.map strc ((l.take i).flatten++l.getD i default)=List.map strc ((l.take (i+1)).flatten) by first | (simp; done) | exact congrArg _ (take_flatten _ _))) .nil)) ⟨(show (i+1)≤l.length by omega),(show l.length - (i+1) < l.length - i by omega)⟩
    ·have c2:=of_decide_eq_false c2
     refine .exit<|.seq<|.rs fun k18=>.mv Y<|.as Y<|.z<|.ret ?_
     have e19:((l.take i).flatten)=(l.flatten):=by (rw [List.take_of_length_le (by omega)])
     exact fin1 (.inr Y) [] [([24,0],(q12,q13,.row 9 1 (List.map strc (l.flatten))))] (.one Y .nil) (.cons (.ref (.head _)) .nil) Y Y (.cons (rowE (congrArg (List.map strc) e19)) .nil)
theorem c_names (d:Decl) (hb:d.vars.length≤1048576∧d.flags.length≤1048576∧d.arrays.length≤1048576):Trip Tryz.prog 127 [(true,3)] (Decl.c33 d) [(false,1)] [.sl true 9 1 (List.map strc (Decl.names d))] []:=by
 refine Trip.of Tryz.func127 (by decide) (c:=_) Y Y (Nat.le_of_ble_eq_true Y) Y (AftOk.nil _)<|.sla (t:=0) 0 Y Y fun hs1l=>.sla (t:=0) 1 Y Y fun hs2l=>.sla (t:=0) 2 Y Y fun hs3l=>.seq<|.rs fun k4=>.g (fun _ τ=>⟨_,.box (.no Y) Y Y Y Y Y τ⟩)<|.as Y<|.z ?_
 refine .seq<|.rs fun k5=>.fp t33 t22 Y<|.ld t22 Y (.ptr _ _ _ _ _ Y) Y<|.fp t33 t22 Y<|.ld t22 Y (.ptr _ _ _ _ _ Y) Y<|.g (fun _ τ=>⟨_,.buildSlice (.no Y) Y (els:=[[.sl false 9 1 (List.map strc (d.vars))],[.sl false 9 1 (List.map strc (d.flags))]]) t211 Y z22 Y Y Y Y Y Y Y Y (by simp [i22]) (.cons _ _ _ _ _ _ (.d _) (.cons _ _ _ _ _ _ (.d _) .nil)) Y Y Y τ⟩) ?_
 refine .g (fun _ τ=>⟨_,.call (.no Y) Y [[10]] [([10],(k5+1+1+1+1,k5+1+1+1+1,.row 22 1 ([[.sl false 9 1 (List.map strc (d.vars))],[.sl false 9 1 (List.map strc (d.flags))]])))] (c_Concat [d.vars,d.flags] (by (simp [lens]; omega))) Y Y Y Y Y (.cons (Reads.ref (Frz.of_erase (erase_slo true 22 1 slc22 slc22 ([d.vars,d.flags]) slc22_e)) (.head _) (.head _)).gives .nil) Y Y (fun _=>(ownCons (Owned.map _ _ _ _ strc_o) ownNil)) (.own [11,0] .nil) (.nil) Y Y Y (AllH.get (.r Y)) Y Y Y τ⟩)<|.as Y<|.z<|.seq<|.seq<|.rs fun k6=>.fp t33 t31 Y<|.ld t31 Y (.ptr _ _ _ _ _ Y) Y<|.g (fun _ τ=>⟨_,.len (.no Y) Y (z:=(d.arrays.length:Int)) t31 Y Y Y (.d _ _) (map_len _ _) Y τ⟩) ?_
 refine .mv Y<|.z<|.block ?_
 refine .loop (X:=Nat × Nat × Nat) (fun ζ=>.of [(3,.one (.ref [11,0] (ζ.2.1))),(13,.one (.d (.sl false 112 2 (List.map Arr.c (d.arrays))))),(14,.one (.d (.v (.int .i64 ((d.arrays.length:Int)))))),(15,.one (.d (.v (.int .i64 ((ζ.1:Int))))))] [([11,0],(ζ.2.1,ζ.2.2,.row 9 1 (List.map strc (d.vars++d.flags++(d.arrays.take ζ.1).map Arr.name))))]) (fun ζ=>ζ.1≤d.arrays.length) (fun ζ=>d.arrays.length - ζ.1) ?_ ?_
 ·skip
  exact .here (0,(k5+1+1+1+1+1),(k5+1+1+1+1+1)) (.of (.cons (by show SV.one (.ref [11,0] (k5+1+1+1+1+1))=SV.one (.ref [11,0] ((k5+1+1+1+1+1))); first | rfl | simp_all) (.cons Y (.cons Y (.cons (svI (show (0)=((0:Int)) by first | rfl | omega | exact wrap_le (by omega) (by omega) | (rw [wrap_le (by omega) (by omega)]; omega))) .nil)))) (.cons (rowE (show List.map strc ([d.vars,d.flags].flatten)=List.map strc (d.vars++d.flags++(d.arrays.take 0).map Arr.name) by first | (simp; done) | (rw [List.append_assoc (d.vars++d.flags),take_step (f:=Arr.name) (by omega)]))) .nil)) (show 0≤d.arrays.length by omega)
 ·rintro ⟨j,q7,q8⟩ hI
  have hI:j≤d.arrays.length:=hI
  dsimp only
  refine .seq<|.rs fun k9=>.bi Y<|.z<|.seq ?_
  refine .cond (t:=decide ((j:Int) < (d.arrays.length:Int))) Y (fun c0=>?_) (fun c0=>?_)
  ·have c0:=of_decide_eq_true c0
   refine .skip<|.seq<|.block<|.seq<|.rs fun k10=>.g (fun _ τ=>⟨_,.indexAddr (.no Y) Y (j) t31 Y t112 Y Y Y (.d _ _) Y Y Y (map_get (by omega)) Y Y τ⟩)<|.lda t112 Y (.d _) Y<|.g (fun _ τ=>⟨_,.alloc (.no Y) Y z112 Y Y Y τ⟩)<|.g (fun _ τ=>⟨_,.store (.no Y) Y t112 Y Y Y Y Y Y Y Y Y τ⟩) ?_
   refine .z<|.rs fun k11=>.mv Y<|.fp t112 t9 Y<|.ld t9 Y (.ptr _ _ _ _ _ Y) Y<|.g (fun _ τ=>⟨_,.buildSlice (.no Y) Y (els:=[[.v (.string ((d.arrays.getD j default).name))]]) t22 Y z9 Y Y Y Y Y Y Y Y (by simp [i9]) (.cons _ _ _ _ _ _ (.d _) .nil) Y Y Y τ⟩)<|.g (fun _ τ=>⟨_,.append (.no Y) Y (l3:=List.map strc (d.vars++d.flags++(d.arrays.take j).map Arr.name++[(d.arrays.getD j default).name])) t22 Y z9 Y Y Y Y Y Y Y Y (.ref _ _ _ _ Y) (.take _ _ _ _ _ Y) Y (by simp [i9]; omega) (map_snoc _ _ _) Y Y τ⟩)<|.as Y<|.z ?_
   refine .rs fun k12=>.bi Y<|.mv Y<|.z ?_
   exact .here ((j+1),(k11+1+1+1+1),(k11+1+1+1+1)) (.of (.cons (by show SV.one (.ref [11,0] (k11+1+1+1+1))=SV.one (.ref [11,0] ((k11+1+1+1+1))); first | rfl | simp_all) (.cons Y (.cons Y (.cons (svI (show (IntKind.wrap .i64 ((j:Int)+1))=(((j+1):Int)) by first | rfl | omega | exact wrap_le (by omega) (by omega) | (rw [wrap_le (by omega) (by omega)]; omega))) .nil)))) (.cons (rowE (show List.map strc (d.vars++d.flags++(d.arrays.take j).map Arr.name++[(d.arrays.getD j default).name])=List.map strc (d.vars++d.flags++(d.arrays.take (j+1)).map Arr.name) by first | (simp; done) | (rw [List.append_assoc (d.vars++d.flags),take_step (f:=Arr.name) (by omega)]))) .nil)) ⟨(show (j+1)≤d.arrays.length by omega),(show d.arrays.length - (j+1) < d.arrays.length - j by omega)⟩
  ·have c0:=of_decide_eq_false c0
   refine .exit<|.seq<|.rs fun k13=>.mv Y<|.as Y<|.z<|.ret ?_
   have e14:(d.vars++d.flags++(d.arrays.take j).map Arr.name)=(Decl.names d):=by (simp only [Decl.names]; rw [List.take_of_length_le (by omega)])
   exact fin1 (.inr Y) [] [([11,0],(q7,q8,.row 9 1 (List.map strc (Decl.names d))))] (.one Y .nil) (.cons (.ref (.head _)) .nil) Y Y (.cons (rowE (congrArg (List.map strc) e14)) .nil)
end Go.Proofs

namespace Go.Proofs
open Go Go.Proofs Go.Ev

def i161:TI:=⟨.fn,1,8,[.nilFunc]⟩
theorem t161:TyOk Tryz.prog 161 i161:=⟨⟨_,_,_,Tryz.underlying161⟩,by kernel_rfl⟩
theorem z161:ZOk Tryz.prog 161 i161:=⟨t161,rfl⟩
def i181:TI:=⟨.fn,1,8,[.nilFunc]⟩
theorem t181:TyOk Tryz.prog 181 i181:=⟨⟨_,_,_,Tryz.underlying181⟩,by kernel_rfl⟩
theorem z181:ZOk Tryz.prog 181 i181:=⟨t181,rfl⟩
theorem c_IvOk (a:Iv):Trip Tryz.prog 150 [(true,2)] (Iv.c a) [(false,1)] [.v (.bool (Iv.ok a))] []:=by
 refine Trip.of Tryz.func150 (by decide) (c:=_) Y Y (Nat.le_of_ble_eq_true Y) Y (AftOk.nil _)<|.seq<|.rs fun k1=>.g (fun _ τ=>⟨_,.box (.no Y) Y Y Y Y Y τ⟩)<|.as Y<|.z<|.seq<|.rs fun k2=>.fp t119 t2 Y ?_
 refine .ld t2 Y (.ptr _ _ _ _ _ Y) Y<|.fp t119 t2 Y<|.ld t2 Y (.ptr _ _ _ _ _ Y) Y<|.bi Y<|.as Y<|.z<|.ret ?_
 exact fin0 (.inr Y) (.one (svB (show (decide (a.lo≤a.hi))=(Iv.ok a) by rfl)) .nil) (.dd .nil) Y
theorem c_IndexFuncA (l:List Arr) (F_p:FuncId) (first_p:List (Bool × List D)) (caps_p:List D) (p:Arr→Bool) (h_p:∀ (x0:Arr),FnTrip Tryz.prog F_p first_p caps_p [(true,2)] (Arr.c x0) [(false,1)] [.v (.bool (p x0))]):Trip Tryz.prog 204 [(false,1),(false,1)] ([.sl false 112 2 (List.map Arr.c (l))]++[.fn F_p first_p caps_p]) [(false,1)] [.v (.int .i64 (idx p l))] []:=by
 refine Trip.of Tryz.func204 (by decide) (c:=_) Y Y (Nat.le_of_ble_eq_true Y) Y (AftOk.nil _)<|.sl (t:=0) Y fun hs1l=>.seq<|.rs fun k2=>.as Y<|.z<|.seq<|.seq<|.rs fun k3=>?_
 refine .mv Y<|.g (fun _ τ=>⟨_,.len (.no Y) Y (z:=(l.length:Int)) t31 Y Y Y (.d _ _) (map_len _ _) Y τ⟩)<|.mv Y<|.z<|.block ?_
 refine .loop (X:=Nat) (fun ζ=>.of [(0,.one (.d (.sl false 112 2 (List.map Arr.c (l))))),(1,.one (.d (.fn F_p first_p caps_p))),(7,.one (.d (.v (.int .i64 ((l.length:Int)))))),(8,.one (.d (.v (.int .i64 ((ζ:Int))))))] []) (fun ζ=>ζ≤l.length∧allTo ζ (fun i=>!p (l.getD i default))=true) (fun ζ=>l.length - ζ) ?_ ?_
 ·skip
  exact .here 0 (.of (.cons Y (.cons Y (.cons Y (.cons (svI (show (0)=((0:Int)) by first | rfl | omega | exact wrap_le (by omega) (by omega) | (rw [wrap_le (by omega) (by omega)]; omega))) .nil)))) .nil) (show 0≤l.length∧allTo 0 (fun i=>!p (l.getD i default))=true by exact ⟨by omega,rfl⟩)
 ·rintro j hI
  have hI:j≤l.length∧allTo j (fun i=>!p (l.getD i default))=true:=hI
  refine .seq<|.rs fun k4=>.bi Y<|.z<|.seq ?_
  refine .cond (t:=decide ((j:Int) < (l.length:Int))) Y (fun c0=>?_) (fun c0=>?_)
  ·have c0:=of_decide_eq_true c0
   refine .skip<|.seq<|.block<|.seq<|.rs fun k5=>.mv Y<|.as Y<|.z<|.seq ?_
   refine .rs fun k6=>.mv Y<|.mv Y<|.mv Y<|.g (fun _ τ=>⟨_,.indexAddr (.no Y) Y (j) t31 Y t112 Y Y Y (.d _ _) Y Y Y (map_get (by omega)) Y Y τ⟩)<|.lda t112 Y (.d _) Y<|.g (fun _ τ=>⟨_,.callF (.no Y) Y (ds:=[.v (.string ((l.getD j default).name)),.v (.int .i64 ((l.getD j default).size))]) (h_p (l.getD j default)) Y Y Y Y (.own [16,0] .nil) Y Y Y Y Y Y τ⟩)<|.z ?_
   refine .cond (t:=p (l.getD j default)) Y (fun c1=>?_) (fun c1=>?_)
   ·have c1:=c1
    refine .seq<|.rs fun k7=>.mv Y<|.as Y<|.z<|.ret ?_
    exact fin0 (.inr Y) (.one (svI (show ((j:Int))=(idx p l) by exact (idx_found (j:=j) (by omega) hI.2 (by simpa using c1)).symm)) .nil) (.dd .nil) Y
   ·have c1:=c1
    refine .skip<|.rs fun k9=>.bi Y<|.mv Y<|.z ?_
    exact .here (j+1) (.of (.cons Y (.cons Y (.cons Y (.cons (svI (show (IntKind.wrap .i64 ((j:Int)+1))=(((j+1):Int)) by first | rfl | omega | exact wrap_le (by omega) (by omega) | (rw [wrap_le (by omega) (by omega)]; omega))) .nil)))) .nil) ⟨(show (j+1)≤l.length∧allTo (j+1) (fun i=>!p (l.getD i default))=true by exact ⟨by omega,allTo_step hI.2 (by simpa using c1)⟩),(show l.length - (j+1) < l.length - j by omega)⟩
  ·have c0:=of_decide_eq_false c0
   refine .exit<|.seq<|.rs fun k10=>.as Y<|.z<|.ret ?_
   exact fin0 (.inr Y) (.one (svI (show (-1)=(idx p l) by exact (idx_none (by omega) hI.2).symm)) .nil) (.dd .nil) Y
theorem c_ContainsFuncA (l:List Arr) (F_p:FuncId) (first_p:List (Bool × List D)) (caps_p:List D) (p:Arr→Bool) (h_p:∀ (x0:Arr),FnTrip Tryz.prog F_p first_p caps_p [(true,2)] (Arr.c x0) [(false,1)] [.v (.bool (p x0))]):Trip Tryz.prog 174 [(false,1),(false,1)] ([.sl false 112 2 (List.map Arr.c (l))]++[.fn F_p first_p caps_p]) [(false,1)] [.v (.bool (l.any p))] []:=by
 refine Trip.of Tryz.func174 (by decide) (c:=_) Y Y (Nat.le_of_ble_eq_true Y) Y (AftOk.nil _)<|.sl (t:=0) Y fun hs1l=>.seq<|.rs fun k2=>.as Y<|.z<|.seq<|.rs fun k3=>.mv Y ?_
 refine .mv Y<|.c0 (c_IndexFuncA l F_p first_p caps_p p h_p) Y (.dd (.dd .nil)) (.own [7,0] .nil) Y<|.bi Y<|.as Y<|.z<|.ret ?_
 exact fin0 (.inr Y) (.one (svB (show (decide ((idx p l)≥0))=(l.any p) by exact idx_any _ _)) .nil) (.dd .nil) Y
theorem c_areAll1A (x:Arr) (F_p:FuncId) (first_p:List (Bool × List D)) (caps_p:List D) (p:Arr→Bool) (h_p:∀ (x0:Arr),FnTrip Tryz.prog F_p first_p caps_p [(true,2)] (Arr.c x0) [(false,1)] [.v (.bool (p x0))]):Trip Tryz.prog 175 [(true,2),(false,1)] (Arr.c x++[.pt false [.fn F_p first_p caps_p]]) [(false,1)] [.v (.bool (!p x))] []:=by
 refine Trip.of Tryz.func175 (by decide) (c:=_) Y Y (Nat.le_of_ble_eq_true Y) Y (AftOk.nil _)<|.seq<|.rs fun k1=>.g (fun _ τ=>⟨_,.box (.no Y) Y Y Y Y Y τ⟩)<|.as Y<|.z<|.seq<|.rs fun k2=>.ld t161 Y (.d _) Y ?_
 refine .lda t112 Y (.ptr _ _ _ _ _ Y) Y<|.g (fun _ τ=>⟨_,.callF (.no Y) Y (ds:=[.v (.string (x.name)),.v (.int .i64 (x.size))]) (h_p x) Y Y Y Y (.own [6,0] .nil) Y Y Y Y Y Y τ⟩)<|.un Y<|.as Y<|.z<|.ret ?_
 exact fin0 (.inr Y) (.one (svB (show (!(p x))=(!p x) by rfl)) .nil) (.dd .nil) Y
theorem c_areAllA (l:List Arr) (F_p:FuncId) (first_p:List (Bool × List D)) (caps_p:List D) (p:Arr→Bool) (h_p:∀ (x0:Arr),FnTrip Tryz.prog F_p first_p caps_p [(true,2)] (Arr.c x0) [(false,1)] [.v (.bool (p x0))]):Trip Tryz.prog 132 [(false,1),(false,1)] ([.sl false 112 2 (List.map Arr.c (l))]++[.fn F_p first_p caps_p]) [(false,1)] [.v (.bool (l.all p))] []:=by
 refine Trip.of Tryz.func132 (by decide) (c:=_) Y Y (Nat.le_of_ble_eq_true Y) Y (AftOk.nil _)<|.sl (t:=0) Y fun hs1l=>.seq<|.rs fun k2=>.g (fun _ τ=>⟨_,.box (.no Y) Y Y Y Y Y τ⟩)<|.as Y<|.z<|.seq<|.rs fun k3=>?_
 refine .mv Y<|.g (fun _ τ=>⟨_,.makeFunc (.no Y) Y Y Y Y Y τ⟩)<|.g (fun _ τ=>⟨_,.call (.no Y) Y [[3]] [([3],(k2,k2,.box [.d (.fn F_p first_p caps_p)]))] (c_ContainsFuncA l 175 [] [.pt false [.fn F_p first_p caps_p]] (fun x0=>!p x0) (fun x0=>c_areAll1A x0 F_p first_p caps_p p h_p)) Y Y Y Y Y (.dd (.cons (Reads.clo0 (.cons (Reads.ptr0 (.head _) (.head _) (.cons (Reads.d _) .nil)) .nil)).gives .nil)) Y Y (fun _=>(ownCons (Owned.v _) ownNil)) (.own [7,0] .nil) (.nil) Y Y Y (AllH.get (.r Y)) Y Y Y τ⟩)<|.un Y<|.as Y<|.z<|.ret ?_
 exact fin0 (.inr Y) (.one (svB (show (!(l.any (fun x0=>!p x0)))=(l.all p) by exact not_any _ _)) .nil) (.dd .nil) Y
theorem c_IndexFuncI (l:List Iv) (F_p:FuncId) (first_p:List (Bool × List D)) (caps_p:List D) (p:Iv→Bool) (h_p:∀ (x0:Iv),FnTrip Tryz.prog F_p first_p caps_p [(true,2)] (Iv.c x0) [(false,1)] [.v (.bool (p x0))]):Trip Tryz.prog 230 [(false,1),(false,1)] ([.sl false 119 2 (List.map Iv.c (l))]++[.fn F_p first_p caps_p]) [(false,1)] [.v (.int .i64 (idx p l))] []:=by
 refine Trip.of Tryz.func230 (by decide) (c:=_) Y Y (Nat.le_of_ble_eq_true Y) Y (AftOk.nil _)<|.sl (t:=0) Y fun hs1l=>.seq<|.rs fun k2=>.as Y<|.z<|.seq<|.seq<|.rs fun k3=>?_
 refine .mv Y<|.g (fun _ τ=>⟨_,.len (.no Y) Y (z:=(l.length:Int)) t96 Y Y Y (.d _ _) (map_len _ _) Y τ⟩)<|.mv Y<|.z<|.block ?_
 refine .loop (X:=Nat) (fun ζ=>.of [(0,.one (.d (.sl false 119 2 (List.map Iv.c (l))))),(1,.one (.d (.fn F_p first_p caps_p))),(7,.one (.d (.v (.int .i64 ((l.length:Int)))))),(8,.one (.d (.v (.int .i64 ((ζ:Int))))))] []) (fun ζ=>ζ≤l.length∧allTo ζ (fun i=>!p (l.getD i default))=true) (fun ζ=>l.length - ζ) ?_ ?_
 ·skip
  exact .here 0 (.of (.cons Y (.cons Y (.cons Y (.cons (svI (show (0)=((0:Int)) by first | rfl | omega | exact wrap_le (by omega) (by omega) | (rw [wrap_le (by omega) (by omega)]; omega))) .nil)))) .nil) (show 0≤l.length∧allTo 0 (fun i=>!p (l.getD i default))=true by exact ⟨by omega,rfl⟩)
 ·rintro j hI
  have hI:j≤l.length∧allTo j (fun i=>!p (l.getD i default))=true:=hI
  refine .seq<|.rs fun k4=>.bi Y<|.z<|.seq ?_
  refine .cond (t:=decide ((j:Int) < (l.length:Int))) Y (fun c0=>?_) (fun c0=>?_)
  ·have c0:=of_decide_eq_true c0
   refine .skip<|.seq<|.block<|.seq<|.rs fun k5=>.mv Y<|.as Y<|.z<|.seq ?_
   refine .rs fun k6=>.mv Y<|.mv Y<|.mv Y<|.g (fun _ τ=>⟨_,.indexAddr (.no Y) Y (j) t96 Y t119 Y Y Y (.d _ _) Y Y Y (map_get (by omega)) Y Y τ⟩)<|.lda t119 Y (.d _) Y<|.g (fun _ τ=>⟨_,.callF (.no Y) Y (ds:=[.v (.int .i64 ((l.getD j default).lo)),.v (.int .i64 ((l.getD j default).hi))]) (h_p (l.getD j default)) Y Y Y Y (.own [16,0] .nil) Y Y Y Y Y Y τ⟩)<|.z ?_
   refine .cond (t:=p (l.getD j default)) Y (fun c1=>?_) (fun c1=>?_)
   ·have c1:=c1
    refine .seq<|.rs fun k7=>.mv Y<|.as Y<|.z<|.ret ?_
    exact fin0 (.inr Y) (.one (svI (show ((j:Int))=(idx p l) by exact (idx_found (j:=j) (by omega) hI.2 (by simpa using c1)).symm)) .nil) (.dd .nil) Y
   ·have c1:=c1
    refine .skip<|.rs fun k9=>.bi Y<|.mv Y<|.z ?_
    exact .here (j+1) (.of (.cons Y (.cons Y (.cons Y (.cons (svI (show (IntKind.wrap .i64 ((j:Int)+1))=(((j+1):Int)) by first | rfl | omega | exact wrap_le (by omega) (by omega) | (rw [wrap_le (by omega) (by omega)]; omega))) .nil)))) .nil) ⟨(show (j+1)≤l.length∧allTo (j+1) (fun i=>!p (l.getD i default))=true by exact ⟨by omega,allTo_step hI.2 (by simpa using c1)⟩),(show l.length - (j+1) < l.length - j by omega)⟩
  ·have c0:=of_decide_eq_false c0
   refine .exit<|.seq<|.rs fun k10=>.as Y<|.z<|.ret ?_
   exact fin0 (.inr Y) (.one (svI (show (-1)=(idx p l) by exact (idx_none (by omega) hI.2).symm)) .nil) (.dd .nil) Y
theorem c_ContainsFuncI (l:List Iv) (F_p:FuncId) (first_p:List (Bool × List D)) (caps_p:List D) (p:Iv→Bool) (h_p:∀ (x0:Iv),FnTrip Tryz.prog F_p first_p caps_p [(true,2)] (Iv.c x0) [(false,1)] [.v (.bool (p x0))]):Trip Tryz.prog 226 [(false,1),(false,1)] ([.sl false 119 2 (List.map Iv.c (l))]++[.fn F_p first_p caps_p]) [(false,1)] [.v (.bool (l.any p))] []:=by
 refine Trip.of Tryz.func226 (by decide) (c:=_) Y Y (Nat.le_of_ble_eq_true Y) Y (AftOk.nil _)<|.sl (t:=0) Y fun hs1l=>.seq<|.rs fun k2=>.as Y<|.z<|.seq<|.rs fun k3=>.mv Y ?_
 refine .mv Y<|.c0 (c_IndexFuncI l F_p first_p caps_p p h_p) Y (.dd (.dd .nil)) (.own [7,0] .nil) Y<|.bi Y<|.as Y<|.z<|.ret ?_
 exact fin0 (.inr Y) (.one (svB (show (decide ((idx p l)≥0))=(l.any p) by exact idx_any _ _)) .nil) (.dd .nil) Y
theorem c_areAll1I (x:Iv) (F_p:FuncId) (first_p:List (Bool × List D)) (caps_p:List D) (p:Iv→Bool) (h_p:∀ (x0:Iv),FnTrip Tryz.prog F_p first_p caps_p [(true,2)] (Iv.c x0) [(false,1)] [.v (.bool (p x0))]):Trip Tryz.prog 227 [(true,2),(false,1)] (Iv.c x++[.pt false [.fn F_p first_p caps_p]]) [(false,1)] [.v (.bool (!p x))] []:=by
 refine Trip.of Tryz.func227 (by decide) (c:=_) Y Y (Nat.le_of_ble_eq_true Y) Y (AftOk.nil _)<|.seq<|.rs fun k1=>.g (fun _ τ=>⟨_,.box (.no Y) Y Y Y Y Y τ⟩)<|.as Y<|.z<|.seq<|.rs fun k2=>.ld t181 Y (.d _) Y ?_
 refine .lda t119 Y (.ptr _ _ _ _ _ Y) Y<|.g (fun _ τ=>⟨_,.callF (.no Y) Y (ds:=[.v (.int .i64 (x.lo)),.v (.int .i64 (x.hi))]) (h_p x) Y Y Y Y (.own [6,0] .nil) Y Y Y Y Y Y τ⟩)<|.un Y<|.as Y<|.z<|.ret ?_
 exact fin0 (.inr Y) (.one (svB (show (!(p x))=(!p x) by rfl)) .nil) (.dd .nil) Y
theorem c_areAllI (l:List Iv) (F_p:FuncId) (first_p:List (Bool × List D)) (caps_p:List D) (p:Iv→Bool) (h_p:∀ (x0:Iv),FnTrip Tryz.prog F_p first_p caps_p [(true,2)] (Iv.c x0) [(false,1)] [.v (.bool (p x0))]):Trip Tryz.prog 219 [(false,1),(false,1)] ([.sl false 119 2 (List.map Iv.c (l))]++[.fn F_p first_p caps_p]) [(false,1)] [.v (.bool (l.all p))] []:=by
 refine Trip.of Tryz.func219 (by decide) (c:=_) Y Y (Nat.le_of_ble_eq_true Y) Y (AftOk.nil _)<|.sl (t:=0) Y fun hs1l=>.seq<|.rs fun k2=>.g (fun _ τ=>⟨_,.box (.no Y) Y Y Y Y Y τ⟩)<|.as Y<|.z<|.seq<|.rs fun k3=>?_
 refine .mv Y<|.g (fun _ τ=>⟨_,.makeFunc (.no Y) Y Y Y Y Y τ⟩)<|.g (fun _ τ=>⟨_,.call (.no Y) Y [[3]] [([3],(k2,k2,.box [.d (.fn F_p first_p caps_p)]))] (c_ContainsFuncI l 227 [] [.pt false [.fn F_p first_p caps_p]] (fun x0=>!p x0) (fun x0=>c_areAll1I x0 F_p first_p caps_p p h_p)) Y Y Y Y Y (.dd (.cons (Reads.clo0 (.cons (Reads.ptr0 (.head _) (.head _) (.cons (Reads.d _) .nil)) .nil)).gives .nil)) Y Y (fun _=>(ownCons (Owned.v _) ownNil)) (.own [7,0] .nil) (.nil) Y Y Y (AllH.get (.r Y)) Y Y Y τ⟩)<|.un Y<|.as Y<|.z<|.ret ?_
 exact fin0 (.inr Y) (.one (svB (show (!(l.any (fun x0=>!p x0)))=(l.all p) by exact not_any _ _)) .nil) (.dd .nil) Y
theorem c_isLetter (c:Int):Trip Tryz.prog 171 [(false,1)] ([.v (.int .u8 (c))]) [(false,1)] [.v (.bool (decide (c≥97)&&decide (c≤122)))] []:=by
 refine Trip.of Tryz.func171 (by decide) (c:=_) Y Y (Nat.le_of_ble_eq_true Y) Y (AftOk.nil _)<|.seq<|.rs fun k1=>.as Y<|.z<|.seq ?_
 refine .reg (X:=Unit) (fun ζ=>.of [(2,.one (.d (.v (.bool ((decide (c≥97)&&decide (c≤122)))))))] []) [⟨[0],some 3,[],[]⟩,⟨[3],some 4,[],[]⟩,⟨[4],some 5,[],[]⟩,⟨[5,0],some 6,[],[]⟩,⟨[5,6],some 7,[],[]⟩,⟨[5,7],some 8,[],[]⟩,⟨[8],some 2,[],[]⟩] (fun k2=>?_) ?_
 ·skip
  refine .move (.no Y) Y Y Y Y<|.bin (.no Y) Y Y Y Y Y Y<|.moveB (.no Y) Y Y Y Y fun b3 g1_2=>?_
  cases b3
  ·skip
   refine .off Y Y Y Y Y Y Y<|.off Y Y Y Y Y Y Y<|.pick (.no Y) Y Y Y Y Y<|.assign (.no Y) Y Y Y Y ?_
   exact .fin () (.of (.cons (svB (show (false)=((decide (c≥97)&&decide (c≤122))) by first | (simp only [g1_2,Bool.true_or,Bool.false_or,Bool.true_and,Bool.false_and,Bool.not_true,Bool.not_false]; done) | (simp [g1_2]; done) | (exfalso; simp_all; done))) .nil) .nil)
  ·skip
   refine .move (.on Y Y Y Y Y) Y Y Y Y<|.bin (.on Y Y Y Y Y) Y Y Y Y Y Y<|.pick (.no Y) Y Y Y Y Y<|.assign (.no Y) Y Y Y Y ?_
   exact .fin () (.of (.cons (svB (show (decide (c≤122))=((decide (c≥97)&&decide (c≤122))) by first | (simp only [g1_2,Bool.true_or,Bool.false_or,Bool.true_and,Bool.false_and,Bool.not_true,Bool.not_false]; done) | (simp [g1_2]; done) | (exfalso; simp_all; done))) .nil) .nil)
 intro _
 refine .ret ?_
 exact fin0 (.inr Y) (.one (svB (show ((decide (c≥97)&&decide (c≤122)))=(decide (c≥97)&&decide (c≤122)) by rfl)) .nil) (.dd .nil) Y
theorem c_within (n:Int) (lo:Int) (hi:Int):Trip Tryz.prog 131 [(false,1),(false,1),(false,1)] ([.v (.int .i64 (n))]++[.v (.int .i64 (lo))]++[.v (.int .i64 (hi))]) [(false,1)] [.v (.bool (inR n lo hi))] []:=by
 refine Trip.of Tryz.func131 (by decide) (c:=_) Y Y (Nat.le_of_ble_eq_true Y) Y (AftOk.nil _)<|.seq<|.rs fun k1=>.as Y<|.z<|.seq ?_
 refine .reg (X:=Unit) (fun ζ=>.of [(6,.one (.d (.v (.bool ((decide (lo≤n)&&decide (n≤hi)))))))] []) [⟨[1],some 7,[],[]⟩,⟨[0],some 8,[],[]⟩,⟨[7,8],some 9,[],[]⟩,⟨[9],some 10,[],[]⟩,⟨[10,0],some 11,[],[]⟩,⟨[10,2],some 12,[],[]⟩,⟨[10,11,12],some 13,[],[]⟩,⟨[10,13],some 14,[],[]⟩,⟨[14],some 6,[],[]⟩] (fun k2=>?_) ?_
 ·skip
  refine .move (.no Y) Y Y Y Y<|.move (.no Y) Y Y Y Y<|.bin (.no Y) Y Y Y Y Y Y<|.moveB (.no Y) Y Y Y Y fun b3 g1_3=>?_
  cases b3
  ·skip
   refine .off Y Y Y Y Y Y Y<|.off Y Y Y Y Y Y Y<|.off Y Y Y Y Y Y Y<|.pick (.no Y) Y Y Y Y Y<|.assign (.no Y) Y Y Y Y ?_
   exact .fin () (.of (.cons (svB (show (false)=((decide (lo≤n)&&decide (n≤hi))) by first | (simp only [g1_3,Bool.true_or,Bool.false_or,Bool.true_and,Bool.false_and,Bool.not_true,Bool.not_false]; done) | (simp [g1_3]; done) | (exfalso; simp_all; done))) .nil) .nil)
  ·skip
   refine .move (.on Y Y Y Y Y) Y Y Y Y<|.move (.on Y Y Y Y Y) Y Y Y Y<|.bin (.on Y Y Y Y Y) Y Y Y Y Y Y<|.pick (.no Y) Y Y Y Y Y<|.assign (.no Y) Y Y Y Y ?_
   exact .fin () (.of (.cons (svB (show (decide (n≤hi))=((decide (lo≤n)&&decide (n≤hi))) by first | (simp only [g1_3,Bool.true_or,Bool.false_or,Bool.true_and,Bool.false_and,Bool.not_true,Bool.not_false]; done) | (simp [g1_3]; done) | (exfalso; simp_all; done))) .nil) .nil)
 intro _
 refine .ret ?_
 exact fin0 (.inr Y) (.one (svB (show ((decide (lo≤n)&&decide (n≤hi)))=(inR n lo hi) by rfl)) .nil) (.dd .nil) Y
theorem c_IndexS (l:List ByteArray) (s:ByteArray):Trip Tryz.prog 173 [(false,1),(false,1)] ([.sl false 9 1 (List.map strc (l))]++[.v (.string (s))]) [(false,1)] [.v (.int .i64 (idx (fun x=>strEq s x) l))] []:=by
 refine Trip.of Tryz.func173 (by decide) (c:=_) Y Y (Nat.le_of_ble_eq_true Y) Y (AftOk.nil _)<|.sl (t:=0) Y fun hs1l=>.seq<|.rs fun k2=>.as Y<|.z<|.seq<|.seq<|.rs fun k3=>?_
 refine .mv Y<|.g (fun _ τ=>⟨_,.len (.no Y) Y (z:=(l.length:Int)) t22 Y Y Y (.d _ _) (map_len _ _) Y τ⟩)<|.mv Y<|.z<|.block ?_
 refine .loop (X:=Nat) (fun ζ=>.of [(0,.one (.d (.sl false 9 1 (List.map strc (l))))),(1,.one (.d (.v (.string (s))))),(7,.one (.d (.v (.int .i64 ((l.length:Int)))))),(8,.one (.d (.v (.int .i64 ((ζ:Int))))))] []) (fun ζ=>ζ≤l.length∧allTo ζ (fun i=>!strEq s (l.getD i default))=true) (fun ζ=>l.length - ζ) ?_ ?_
 ·skip
  exact .here 0 (.of (.cons Y (.cons Y (.cons Y (.cons (svI (show (0)=((0:Int)) by first | rfl | omega | exact wrap_le (by omega) (by omega) | (rw [wrap_le (by omega) (by omega)]; omega))) .nil)))) .nil) (show 0≤l.length∧allTo 0 (fun i=>!strEq s (l.getD i default))=true by exact ⟨by omega,rfl⟩)
 ·rintro j hI
  have hI:j≤l.length∧allTo j (fun i=>!strEq s (l.getD i default))=true:=hI
  refine .seq<|.rs fun k4=>.bi Y<|.z<|.seq ?_
  refine .cond (t:=decide ((j:Int) < (l.length:Int))) Y (fun c0=>?_) (fun c0=>?_)
  ·have c0:=of_decide_eq_true c0
   refine .skip<|.seq<|.block<|.seq<|.rs fun k5=>.mv Y<|.as Y<|.z<|.seq ?_
   refine .rs fun k6=>.mv Y<|.mv Y<|.mv Y<|.g (fun _ τ=>⟨_,.indexAddr (.no Y) Y (j) t22 Y t9 Y Y Y (.d _ _) Y Y Y (map_get (by omega)) Y Y τ⟩)<|.ld t9 Y (.d _) Y<|.bi Y<|.z ?_
   refine .cond (t:=s.toList == (l.getD j default).toList) Y (fun c1=>?_) (fun c1=>?_)
   ·have c1:=c1
    refine .seq<|.rs fun k7=>.mv Y<|.as Y<|.z<|.ret ?_
    exact fin0 (.inr Y) (.one (svI (show ((j:Int))=(idx (fun x=>strEq s x) l) by exact (idx_found (p:=fun x=>strEq s x) (by omega) hI.2 c1).symm)) .nil) (.dd .nil) Y
   ·have c1:=c1
    refine .skip<|.rs fun k9=>.bi Y<|.mv Y<|.z ?_
    exact .here (j+1) (.of (.cons Y (.cons Y (.cons Y (.cons (svI (show (IntKind.wrap .i64 ((j:Int)+1))=(((j+1):Int)) by first | rfl | omega | exact wrap_le (by omega) (by omega) | (rw [wrap_le (by omega) (by omega)]; omega))) .nil)))) .nil) ⟨(show (j+1)≤l.length∧allTo (j+1) (fun i=>!strEq s (l.getD i default))=true by exact ⟨by omega,allTo_step hI.2 (by rw [show strEq s (l.getD j default)=false from c1]; rfl)⟩),(show l.length - (j+1) < l.length - j by omega)⟩
  ·have c0:=of_decide_eq_false c0
   refine .exit<|.seq<|.rs fun k10=>.as Y<|.z<|.ret ?_
   exact fin0 (.inr Y) (.one (svI (show (-1)=(idx (fun x=>strEq s x) l) by exact (idx_none (p:=fun x=>strEq s x) (by omega) hI.2).symm)) .nil) (.dd .nil) Y
theorem c_ContainsS (l:List ByteArray) (s:ByteArray):Trip Tryz.prog 129 [(false,1),(false,1)] ([.sl false 9 1 (List.map strc (l))]++[.v (.string (s))]) [(false,1)] [.v (.bool (l.any fun x=>strEq s x))] []:=by
 refine Trip.of Tryz.func129 (by decide) (c:=_) Y Y (Nat.le_of_ble_eq_true Y) Y (AftOk.nil _)<|.sl (t:=0) Y fun hs1l=>.seq<|.rs fun k2=>.as Y<|.z<|.seq<|.rs fun k3=>.mv Y ?_
 refine .mv Y<|.c0 (c_IndexS l s) Y (.dd (.dd .nil)) (.own [7,0] .nil) Y<|.bi Y<|.as Y<|.z<|.ret ?_
 exact fin0 (.inr Y) (.one (svB (show (decide ((idx (fun x=>strEq s x) l)≥0))=(l.any fun x=>strEq s x) by exact idx_any _ _)) .nil) (.dd .nil) Y
theorem asciiTab {W:World} {Z:Nat→Prop} (h:Laid W Z):∀ c:Nat,c < 256→W.cell? ⟨0,c,none⟩=some (.int .u8 (if Lib.isSp (UInt8.ofNat c) then 1 else 0)):=fun c hc=>by
  obtain ⟨_,h2⟩:=h _ (List.mem_singleton.2 Y)
  obtain ⟨v,h3,h4⟩:=h2 c (.v (.int .u8 (if Lib.isSp (UInt8.ofNat c) then 1 else 0))) (by simp [hc])
  cases h4; exact h3
def words:ByteArray:=(⟨#[118,97,114,32,102,108,97,103,32,97,114,114,97,121,32,105,102,32,102,111,114,107,32,101,108,115,101,32,101,110,100,32,119,104,105,108,101,32,117,110,114,111,108,108,32,97,115,115,101,114,116,32,97,115,115,117,109,101,32,105,110,112,117,116,32,115,112,108,105,116,32,109,101,114,103,101,32,116,114,117,101,32,102,97,108,115,101]⟩:ByteArray)
theorem words_ascii:∀ (j:Nat) b,words.data.toList[j]?=some b→b.toNat < 128:=fun j b h=>by
  have h1:(words.data.toList.all fun b=>decide (b.toNat < 128))=true:=by kernel_rfl
  exact of_decide_eq_true (List.all_eq_true.1 h1 b (List.mem_of_getElem? h))
theorem words_fields:Lib.fields words.data.toList=keys.map fun k=>k.data.toList:=by kernel_rfl
theorem c_Fields:Trip Tryz.prog 203 [(false,1)] ([.v (.string (⟨#[118,97,114,32,102,108,97,103,32,97,114,114,97,121,32,105,102,32,102,111,114,107,32,101,108,115,101,32,101,110,100,32,119,104,105,108,101,32,117,110,114,111,108,108,32,97,115,115,101,114,116,32,97,115,115,117,109,101,32,105,110,112,117,116,32,115,112,108,105,116,32,109,101,114,103,101,32,116,114,117,101,32,102,97,108,115,101]⟩:ByteArray))]) [(false,1)] [.sl true 9 1 (List.map strc (keys))] []:=by
  have h:=Trip.row1 (P:=Tryz.prog) (f:=203) (x:=.string words) (cs:=keys.map .string) (e:=9) ⟨_,Tryz.func203,by decide,by decide⟩ rfl (by intro v hv; obtain ⟨s,_,rfl⟩:=List.mem_map.1 hv; rfl) (by decide) fun W Z hL _ =>
    (Any.strings_Fields_core Tryz.lays157 (by kernel_rfl) words W (by decide) words_ascii (asciiTab hL)).mono fun e w' ⟨h1,h2⟩=>by
      rw [words_fields] at h1 h2
      exact ⟨h1,h2⟩
  exact h
theorem c_isWord (s:ByteArray):Trip Tryz.prog 172 [(false,1)] ([.v (.string (s))]) [(false,1)] [.v (.bool (isKey s))] []:=by
 refine Trip.of Tryz.func172 (by decide) (c:=_) Y Y (Nat.le_of_ble_eq_true Y) Y (AftOk.nil _)<|.seq<|.rs fun k1=>.as Y<|.z<|.seq<|.rs fun k2=>.c0 (c_Fields ) Y (.dd .nil) (.frz [3,0] (Frz.of_erase (erase_slo _ _ _ _ _ _ strc_e)) .nil) Y<|.mv Y ?_
 refine .c0 (c_ContainsS keys s) Y (.dd (.dd .nil)) (.own [5,0] .nil) Y<|.as Y<|.z<|.ret ?_
 exact fin0 (.inr Y) (.one (svB (show (keys.any fun x=>strEq s x)=(isKey s) by exact isKey_eq s)) .nil) (.dd .nil) Y
theorem c_isName (s:ByteArray) (hs:s.size≤9223372036854775807):Trip Tryz.prog 128 [(false,1)] ([.v (.string (s))]) [(false,1)] [.v (.bool (nmOk s))] []:=by
 refine Trip.of Tryz.func128 (by decide) (c:=_) Y Y (Nat.le_of_ble_eq_true Y) Y (AftOk.nil _)<|.seq<|.rs fun k1=>.as Y<|.z<|.seq<|.seq<|.rs fun k2=>.mv Y ?_
 refine .g (fun _ τ=>⟨_,.lenStr (.no Y) Y t9 Y Y Y Y Y τ⟩)<|.mv Y<|.z<|.block ?_
 refine .loop (X:=Nat) (fun ζ=>.of [(0,.one (.d (.v (.string (s))))),(5,.one (.d (.v (.int .i64 ((s.size:Int)))))),(6,.one (.d (.v (.int .i64 ((ζ:Int))))))] []) (fun ζ=>ζ≤s.size∧allTo ζ (fun i=>decide (97≤byteAt s i∧byteAt s i≤122))=true) (fun ζ=>s.size - ζ) ?_ ?_
 ·skip
  exact .here 0 (.of (.cons Y (.cons Y (.cons (svI (show (0)=((0:Int)) by first | rfl | omega | exact wrap_le (by omega) (by omega) | (rw [wrap_le (by omega) (by omega)]; omega))) .nil))) .nil) (show 0≤s.size∧allTo 0 (fun i=>decide (97≤byteAt s i∧byteAt s i≤122))=true by exact ⟨by omega,rfl⟩)
 ·rintro j hI
  have hI:j≤s.size∧allTo j (fun i=>decide (97≤byteAt s i∧byteAt s i≤122))=true:=hI
  refine .seq<|.rs fun k3=>.bi Y<|.z<|.seq ?_
  refine .cond (t:=decide ((j:Int) < (s.size:Int))) Y (fun c0=>?_) (fun c0=>?_)
  ·have c0:=of_decide_eq_true c0
   refine .skip<|.seq<|.block<|.seq<|.rs fun k4=>.mv Y<|.as Y<|.z<|.seq ?_
   refine .rs fun k5=>.mv Y<|.mv Y<|.g (fun _ τ=>⟨_,.indexStr (.no Y) Y (z:=byteAt s j) (j) t9 Y Y Y Y Y (b8_get (by omega)) Y Y τ⟩)<|.c0 (c_isLetter (byteAt s j)) Y (.dd .nil) (.own [12,0] .nil) Y<|.un Y<|.z ?_
   refine .cond (t:=!(decide ((byteAt s j)≥97)&&decide ((byteAt s j)≤122))) Y (fun c1=>?_) (fun c1=>?_)
   ·have c1:=(nT (aF dF dF)) c1
    refine .seq<|.rs fun k6=>.as Y<|.z<|.ret ?_
    exact fin0 (.inr Y) (.one (svB (show (false)=(nmOk s) by (simp only [nmOk,letters]; rw [allTo_fail (j:=j) (by omega) (by simp only [decide_eq_false_iff_not]; omega)]; rfl))) .nil) (.dd .nil) Y
   ·have c1:=(nF (aT dT dT)) c1
    refine .skip<|.rs fun k8=>.bi Y<|.mv Y<|.z ?_
    exact .here (j+1) (.of (.cons Y (.cons Y (.cons (svI (show (IntKind.wrap .i64 ((j:Int)+1))=(((j+1):Int)) by first | rfl | omega | exact wrap_le (by omega) (by omega) | (rw [wrap_le (by omega) (by omega)]; omega))) .nil))) .nil) ⟨(show (j+1)≤s.size∧allTo (j+1) (fun i=>decide (97≤byteAt s i∧byteAt s i≤122))=true by exact ⟨by omega,allTo_step hI.2 (by simp only [decide_eq_true_eq]; omega)⟩),(show s.size - (j+1) < s.size - j by omega)⟩
  ·have c0:=of_decide_eq_false c0
   refine .exit<|.seq ?_
   refine .reg (X:=Unit) (fun ζ=>.of [(2,.one (.d (.v (.bool ((inR (s.size:Int) 1 8&&!(isKey s)))))))] []) [⟨[0],some 15,[],[]⟩,⟨[15],some 16,[],[]⟩,⟨[16],some 17,[],[]⟩,⟨[17],some 18,[],[]⟩,⟨[18,0],some 19,[],[]⟩,⟨[18,19],some 20,[],[]⟩,⟨[18,20],some 21,[],[]⟩,⟨[18,21],some 22,[],[]⟩,⟨[22],some 2,[],[]⟩] (fun k9=>?_) ?_
   ·skip
    refine .move (.no Y) Y Y Y Y<|.lenStr (.no Y) Y t9 Y Y Y Y Y<|.call (.no Y) Y [] [] (c_within (s.size:Int) 1 8) Y Y Y Y Y (.dd (.dd (.dd .nil))) Y Y (fun h=>absurd Y h) (.own [17,0] .nil) (.nil) Y Y Y (by simp) Y Y Y<|.moveB (.no Y) Y Y Y Y fun b10 g7_3=>?_
    cases b10
    ·skip
     refine .off Y Y Y Y Y Y Y<|.off Y Y Y Y Y Y Y<|.off Y Y Y Y Y Y Y<|.pick (.no Y) Y Y Y Y Y<|.assign (.no Y) Y Y Y Y ?_
     exact .fin () (.of (.cons (svB (show (false)=((inR (s.size:Int) 1 8&&!(isKey s))) by first | (simp only [g7_3,Bool.true_or,Bool.false_or,Bool.true_and,Bool.false_and,Bool.not_true,Bool.not_false]; done) | (simp [g7_3]; done) | (exfalso; simp_all; done))) .nil) .nil)
    ·skip
     refine .move (.on Y Y Y Y Y) Y Y Y Y<|.call (.on Y Y Y Y Y) Y [] [] (c_isWord s) Y Y Y Y Y (.dd .nil) Y Y (fun h=>absurd Y h) (.own [20,0] .nil) (.nil) Y Y Y (by simp) Y Y Y<|.un (.on Y Y Y Y Y) Y Y Y Y Y<|.pick (.no Y) Y Y Y Y Y<|.assign (.no Y) Y Y Y Y ?_
     exact .fin () (.of (.cons (svB (show (!(isKey s))=((inR (s.size:Int) 1 8&&!(isKey s))) by first | (simp only [g7_3,Bool.true_or,Bool.false_or,Bool.true_and,Bool.false_and,Bool.not_true,Bool.not_false]; done) | (simp [g7_3]; done) | (exfalso; simp_all; done))) .nil) .nil)
   intro _
   refine .ret ?_
   exact fin0 (.inr Y) (.one (svB (show ((inR (s.size:Int) 1 8&&!(isKey s)))=(nmOk s) by (have hj:j=s.size:=(by omega); subst hj; simp only [nmOk,letters]; rw [hI.2]; rfl))) .nil) (.dd .nil) Y
theorem c_isRight1 (a:Arr):Trip Tryz.prog 130 [(true,2)] (Arr.c a) [(false,1)] [.v (.bool (inR a.size 1 16))] []:=by
 refine Trip.of Tryz.func130 (by decide) (c:=_) Y Y (Nat.le_of_ble_eq_true Y) Y (AftOk.nil _)<|.seq<|.rs fun k1=>.g (fun _ τ=>⟨_,.box (.no Y) Y Y Y Y Y τ⟩)<|.as Y<|.z<|.seq<|.rs fun k2=>.fp t112 t2 Y ?_
 refine .ld t2 Y (.ptr _ _ _ _ _ Y) Y<|.c0 (c_within a.size 1 16) Y (.dd (.dd (.dd .nil))) (.own [5,0] .nil) Y<|.as Y<|.z<|.ret ?_
 exact fin0 (.inr Y) (.one Y .nil) (.dd .nil) Y
theorem c_isRight (d:Decl) (hs:∀ x∈Decl.names d,x.size≤9223372036854775807) (hb:d.vars.length≤1048576∧d.flags.length≤1048576∧d.arrays.length≤1048576):Trip Tryz.prog 78 [(true,3)] (Decl.c33 d) [(false,1)] [.v (.bool (Decl.ok d))] []:=by
 refine Trip.of Tryz.func78 (by decide) (c:=_) Y Y (Nat.le_of_ble_eq_true Y) Y (AftOk.nil _)<|.sla (t:=0) 0 Y Y fun hs1l=>.sla (t:=0) 1 Y Y fun hs2l=>.sla (t:=0) 2 Y Y fun hs3l=>.seq<|.rs fun k4=>.g (fun _ τ=>⟨_,.box (.no Y) Y Y Y Y Y τ⟩)<|.as Y<|.z ?_
 refine .seq<|.rs fun k5=>.lda t33 Y (.ptr _ _ _ _ _ Y) Y<|.c0 (c_names d (by first | assumption | omega | exact hs _ (getD_mem (by omega)))) Y (.dd (.dd (.dd .nil))) (.frz [8,0] (Frz.of_erase (erase_slo _ _ _ _ _ _ strc_e)) .nil) Y<|.as Y<|.z<|.seq<|.seq<|.rs fun k6=>?_
 refine .mv Y<|.g (fun _ τ=>⟨_,.len (.no Y) Y (z:=((Decl.names d).length:Int)) t22 Y Y Y (.d _ _) (map_len _ _) Y τ⟩)<|.mv Y<|.z<|.block ?_
 refine .loop (X:=Nat) (fun ζ=>.of [(1,.one (.ptr [1] (k4) 0)),(3,.one (.d (.sl false 9 1 (List.map strc (Decl.names d))))),(9,.one (.d (.sl false 9 1 (List.map strc (Decl.names d))))),(10,.one (.d (.v (.int .i64 (((Decl.names d).length:Int)))))),(11,.one (.d (.v (.int .i64 ((ζ:Int))))))] [([1],(k4,k4,.box [.d (.sl false 9 1 (List.map strc (d.vars))),.d (.sl false 9 1 (List.map strc (d.flags))),.d (.sl false 112 2 (List.map Arr.c (d.arrays)))]))]) (fun ζ=>ζ≤(Decl.names d).length∧allTo ζ (nameOk (Decl.names d))=true) (fun ζ=>(Decl.names d).length - ζ) ?_ ?_
 ·skip
  exact .here 0 (.of (.cons Y (.cons Y (.cons Y (.cons Y (.cons (svI (show (0)=((0:Int)) by first | rfl | omega | exact wrap_le (by omega) (by omega) | (rw [wrap_le (by omega) (by omega)]; omega))) .nil))))) (.r Y)) (show 0≤(Decl.names d).length∧allTo 0 (nameOk (Decl.names d))=true by exact ⟨by omega,rfl⟩)
 ·rintro j hI
  have hI:j≤(Decl.names d).length∧allTo j (nameOk (Decl.names d))=true:=hI
  have hn9:(Decl.names d).length≤3145728:=by simp [Decl.names]; omega
  refine .seq<|.rs fun k7=>.bi Y<|.z<|.seq ?_
  refine .cond (t:=decide ((j:Int) < ((Decl.names d).length:Int))) Y (fun c0=>?_) (fun c0=>?_)
  ·have c0:=of_decide_eq_true c0
   refine .skip<|.seq<|.block<|.seq<|.rs fun k8=>.mv Y<|.g (fun _ τ=>⟨_,.indexAddr (.no Y) Y (j) t22 Y t9 Y Y Y (.d _ _) Y Y Y (map_get (by omega)) Y Y τ⟩)<|.ld t9 Y (.d _) Y<|.as Y ?_
   refine .as Y<|.z<|.seq ?_
   refine .reg (X:=Unit) (fun ζ=>.of [(1,.one (.ptr [1] (k4) 0)),(3,.one (.d (.sl false 9 1 (List.map strc (Decl.names d))))),(9,.one (.d (.sl false 9 1 (List.map strc (Decl.names d))))),(10,.one (.d (.v (.int .i64 (((Decl.names d).length:Int)))))),(11,.one (.d (.v (.int .i64 ((j:Int)))))),(25,.one (.d (.v (.bool ((!(nmOk ((Decl.names d).getD (j) default))||((Decl.names d).take j).any fun x=>strEq ((Decl.names d).getD (j) default) x))))))] [([1],(k4,k4,.box [.d (.sl false 9 1 (List.map strc (d.vars))),.d (.sl false 9 1 (List.map strc (d.flags))),.d (.sl false 112 2 (List.map Arr.c (d.arrays)))]))]) [⟨[5],some 16,[],[]⟩,⟨[16],some 17,[],[]⟩,⟨[17],some 18,[],[]⟩,⟨[18],some 19,[],[]⟩,⟨[19,3],some 20,[],[]⟩,⟨[19,4],some 21,[],[]⟩,⟨[19,20,21],some 22,[],[]⟩,⟨[19,5],some 23,[],[]⟩,⟨[19,22,23],some 24,[],[]⟩,⟨[19,24],some 25,[],[]⟩] (fun k9=>?_) ?_
   ·skip
    refine .move (.no Y) Y Y Y Y<|.call (.no Y) Y [] [] (c_isName ((Decl.names d).getD (j) default) (by first | assumption | omega | exact hs _ (getD_mem (by omega)))) Y Y Y Y Y (.dd .nil) Y Y (fun h=>absurd Y h) (.own [17,0] .nil) (.nil) Y Y Y (by simp) Y Y Y<|.un (.no Y) Y Y Y Y Y<|.moveB (.no Y) Y Y Y Y fun b10 g5_3=>?_
    cases b10
    ·skip
     refine .move (.on Y Y Y Y Y) Y Y Y Y<|.move (.on Y Y Y Y Y) Y Y Y Y<|.slice (.on Y Y Y Y Y) Y (lv:=0) (hv:=j) (m:=0) t22 Y t9 Y Y (.d _ _) Y (by intro _ _ h; cases h) (by exact rfl) (by exact ⟨_,rfl⟩) (Nat.zero_le _) (le_map (by omega)) (cut_d0 _ _ _ _ _ _ _ _ _) Y<|.move (.on Y Y Y Y Y) Y Y Y Y<|.call (.on Y Y Y Y Y) Y [] [] (c_ContainsS ((Decl.names d).take j) ((Decl.names d).getD (j) default)) Y Y Y Y Y (.dd (.dd .nil)) Y Y (fun h=>absurd Y h) (.own [24,0] .nil) (.nil) Y Y Y (by simp) Y Y Y<|.pick (.no Y) Y Y Y Y Y ?_
     exact .fin () (.of (.cons Y (.cons Y (.cons Y (.cons Y (.cons Y (.cons (svB (show (((Decl.names d).take j).any fun x=>strEq ((Decl.names d).getD (j) default) x)=((!(nmOk ((Decl.names d).getD (j) default))||((Decl.names d).take j).any fun x=>strEq ((Decl.names d).getD (j) default) x)) by first | (simp only [g5_3,Bool.true_or,Bool.false_or,Bool.true_and,Bool.false_and,Bool.not_true,Bool.not_false]; done) | (simp [g5_3]; done) | (exfalso; simp_all; done))) .nil)))))) (.r Y))
    ·skip
     refine .off Y Y Y Y Y Y Y<|.off Y Y Y Y Y Y Y<|.off Y Y Y Y Y Y Y<|.off Y Y Y Y Y Y Y<|.off Y Y Y Y Y Y Y<|.pick (.no Y) Y Y Y Y Y ?_
     exact .fin () (.of (.cons Y (.cons Y (.cons Y (.cons Y (.cons Y (.cons (svB (show (true)=((!(nmOk ((Decl.names d).getD (j) default))||((Decl.names d).take j).any fun x=>strEq ((Decl.names d).getD (j) default) x)) by first | (simp only [g5_3,Bool.true_or,Bool.false_or,Bool.true_and,Bool.false_and,Bool.not_true,Bool.not_false]; done) | (simp [g5_3]; done) | (exfalso; simp_all; done))) .nil)))))) (.r Y))
   intro _
   refine .cond (t:=(!(nmOk ((Decl.names d).getD (j) default))||((Decl.names d).take j).any fun x=>strEq ((Decl.names d).getD (j) default) x)) Y (fun c1=>?_) (fun c1=>?_)
   ·have c1:=(oT (nT id) id) c1
    refine .seq<|.rs fun k11=>.as Y<|.z<|.ret ?_
    exact fin0 (.inr Y) (.one (svB (show (false)=(Decl.ok d) by exact (Decl.ok_name2 (j:=j) (by omega) c1).symm)) .nil) (.dd .nil) Y
   ·have c1:=(oF (nF id) id) c1
    refine .skip<|.rs fun k13=>.bi Y<|.mv Y<|.z ?_
    exact .here (j+1) (.of (.cons Y (.cons Y (.cons Y (.cons Y (.cons (svI (show (IntKind.wrap .i64 ((j:Int)+1))=(((j+1):Int)) by first | rfl | omega | exact wrap_le (by omega) (by omega) | (rw [wrap_le (by omega) (by omega)]; omega))) .nil))))) (.r Y)) ⟨(show (j+1)≤(Decl.names d).length∧allTo (j+1) (nameOk (Decl.names d))=true by exact ⟨by omega,allTo_step hI.2 (nameOk_of2 c1)⟩),(show (Decl.names d).length - (j+1) < (Decl.names d).length - j by omega)⟩
  ·have c0:=of_decide_eq_false c0
   refine .exit<|.seq<|.rs fun k14=>.as Y<|.z<|.seq ?_
   refine .reg (X:=Unit) (fun ζ=>.of [(2,.one (.d (.v (.bool ((((decide ((d.vars.length:Int)≤5)&&decide ((d.flags.length:Int)≤3))&&decide ((d.arrays.length:Int)≤2))&&d.arrays.all (fun x0=>inR x0.size 1 16)))))))] []) [⟨[1],some 27,[],[]⟩,⟨[27],some 28,[[1]],[]⟩,⟨[28],some 29,[],[]⟩,⟨[29],some 30,[],[]⟩,⟨[30],some 31,[],[]⟩,⟨[31,1],some 32,[],[]⟩,⟨[31,32],some 33,[[1]],[]⟩,⟨[31,33],some 34,[],[]⟩,⟨[31,34],some 35,[],[]⟩,⟨[31,35],some 36,[],[]⟩,⟨[36],some 37,[],[]⟩,⟨[37,1],some 38,[],[]⟩,⟨[37,38],some 39,[[1]],[]⟩,⟨[37,39],some 40,[],[]⟩,⟨[37,40],some 41,[],[]⟩,⟨[37,41],some 42,[],[]⟩,⟨[42],some 43,[],[]⟩,⟨[43,1],some 44,[],[]⟩,⟨[43,44],some 45,[[1]],[]⟩,⟨[43,6],some 46,[],[]⟩,⟨[43,45,46],some 47,[],[]⟩,⟨[43,47],some 48,[],[]⟩,⟨[48],some 2,[],[]⟩] (fun k15=>?_) ?_
   ·skip
    refine .fieldAddrP (.no Y) Y t33 Y Y t22 Y Y Y Y<|.load (.no Y) Y t22 Y Y (.ptr _ _ _ _ _ Y) Y Y Y Y<|.len (.no Y) Y (z:=(d.vars.length:Int)) t22 Y Y Y (.d _ _) (map_len _ _) Y<|.bin (.no Y) Y Y Y Y Y Y<|.moveB (.no Y) Y Y Y Y fun b16 g9_4=>?_
    cases b16
    ·skip
     refine .off Y Y Y Y Y Y Y<|.off Y Y Y Y Y Y Y<|.off Y Y Y Y Y Y Y<|.off Y Y Y Y Y Y Y<|.pick (.no Y) Y Y Y Y Y<|.move (.no Y) Y Y Y Y<|.off Y Y Y Y Y Y Y<|.off Y Y Y Y Y Y Y<|.off Y Y Y Y Y Y Y ?_
     refine .off Y Y Y Y Y Y Y<|.pick (.no Y) Y Y Y Y Y<|.move (.no Y) Y Y Y Y<|.off Y Y Y Y Y Y Y<|.off Y Y Y Y Y Y Y<|.off Y Y Y Y Y Y Y<|.off Y Y Y Y Y Y Y<|.pick (.no Y) Y Y Y Y Y<|.assign (.no Y) Y Y Y Y ?_
     exact .fin () (.of (.cons (svB (show (false)=((((decide ((d.vars.length:Int)≤5)&&decide ((d.flags.length:Int)≤3))&&decide ((d.arrays.length:Int)≤2))&&d.arrays.all (fun x0=>inR x0.size 1 16))) by first | (simp only [g9_4,Bool.true_or,Bool.false_or,Bool.true_and,Bool.false_and,Bool.not_true,Bool.not_false]; done) | (simp [g9_4]; done) | (exfalso; simp_all; done))) .nil) .nil)
    ·skip
     refine .fieldAddrP (.on Y Y Y Y Y) Y t33 Y Y t22 Y Y Y Y<|.load (.on Y Y Y Y Y) Y t22 Y Y (.ptr _ _ _ _ _ Y) Y Y Y Y<|.len (.on Y Y Y Y Y) Y (z:=(d.flags.length:Int)) t22 Y Y Y (.d _ _) (map_len _ _) Y<|.bin (.on Y Y Y Y Y) Y Y Y Y Y Y<|.pick (.no Y) Y Y Y Y Y<|.moveB (.no Y) Y Y Y Y fun b17 g9_10=>?_
     cases b17
     ·skip
      refine .off Y Y Y Y Y Y Y<|.off Y Y Y Y Y Y Y<|.off Y Y Y Y Y Y Y<|.off Y Y Y Y Y Y Y<|.pick (.no Y) Y Y Y Y Y<|.move (.no Y) Y Y Y Y<|.off Y Y Y Y Y Y Y<|.off Y Y Y Y Y Y Y<|.off Y Y Y Y Y Y Y ?_
      refine .off Y Y Y Y Y Y Y<|.pick (.no Y) Y Y Y Y Y<|.assign (.no Y) Y Y Y Y ?_
      exact .fin () (.of (.cons (svB (show (false)=((((decide ((d.vars.length:Int)≤5)&&decide ((d.flags.length:Int)≤3))&&decide ((d.arrays.length:Int)≤2))&&d.arrays.all (fun x0=>inR x0.size 1 16))) by first | (simp only [g9_4,g9_10,Bool.true_or,Bool.false_or,Bool.true_and,Bool.false_and,Bool.not_true,Bool.not_false]; done) | (simp [g9_4,g9_10]; done) | (exfalso; simp_all; done))) .nil) .nil)
     ·skip
      refine .fieldAddrP (.on Y Y Y Y Y) Y t33 Y Y t31 Y Y Y Y<|.load (.on Y Y Y Y Y) Y t31 Y Y (.ptr _ _ _ _ _ Y) Y Y Y Y<|.len (.on Y Y Y Y Y) Y (z:=(d.arrays.length:Int)) t31 Y Y Y (.d _ _) (map_len _ _) Y<|.bin (.on Y Y Y Y Y) Y Y Y Y Y Y<|.pick (.no Y) Y Y Y Y Y<|.moveB (.no Y) Y Y Y Y fun b18 g9_16=>?_
      cases b18
      ·skip
       refine .off Y Y Y Y Y Y Y<|.off Y Y Y Y Y Y Y<|.off Y Y Y Y Y Y Y<|.off Y Y Y Y Y Y Y<|.pick (.no Y) Y Y Y Y Y<|.assign (.no Y) Y Y Y Y ?_
       exact .fin () (.of (.cons (svB (show (false)=((((decide ((d.vars.length:Int)≤5)&&decide ((d.flags.length:Int)≤3))&&decide ((d.arrays.length:Int)≤2))&&d.arrays.all (fun x0=>inR x0.size 1 16))) by first | (simp only [g9_4,g9_10,g9_16,Bool.true_or,Bool.false_or,Bool.true_and,Bool.false_and,Bool.not_true,Bool.not_false]; done) | (simp [g9_4,g9_10,g9_16]; done) | (exfalso; simp_all; done))) .nil) .nil)
      ·skip
       refine .fieldAddrP (.on Y Y Y Y Y) Y t33 Y Y t31 Y Y Y Y<|.load (.on Y Y Y Y Y) Y t31 Y Y (.ptr _ _ _ _ _ Y) Y Y Y Y<|.move (.on Y Y Y Y Y) Y Y Y Y<|.call (.on Y Y Y Y Y) Y [] [] (c_areAllA d.arrays 130 [] [] (fun x0=>inR x0.size 1 16) (fun x0=>c_isRight1 x0)) Y Y Y Y Y (.dd (.dd .nil)) Y Y (fun h=>absurd Y h) (.own [47,0] .nil) (.nil) Y Y Y (by simp) Y Y Y<|.pick (.no Y) Y Y Y Y Y<|.assign (.no Y) Y Y Y Y ?_
       exact .fin () (.of (.cons (svB (show (d.arrays.all (fun x0=>inR x0.size 1 16))=((((decide ((d.vars.length:Int)≤5)&&decide ((d.flags.length:Int)≤3))&&decide ((d.arrays.length:Int)≤2))&&d.arrays.all (fun x0=>inR x0.size 1 16))) by first | (simp only [g9_4,g9_10,g9_16,Bool.true_or,Bool.false_or,Bool.true_and,Bool.false_and,Bool.not_true,Bool.not_false]; done) | (simp [g9_4,g9_10,g9_16]; done) | (exfalso; simp_all; done))) .nil) .nil)
   intro _
   refine .ret ?_
   exact fin0 (.inr Y) (.one (svB (show ((((decide ((d.vars.length:Int)≤5)&&decide ((d.flags.length:Int)≤3))&&decide ((d.arrays.length:Int)≤2))&&d.arrays.all (fun x0=>inR x0.size 1 16)))=(Decl.ok d) by exact Decl.ok_right (j:=j) (by omega) hI.2)) .nil) (.dd .nil) Y
theorem c_isEnv (d:Decl) (e:Env):Trip Tryz.prog 199 [(true,3),(true,3)] (Decl.c33 d++Env.c98 e) [(false,1)] [.v (.bool (Env.okIn d e))] []:=by
 refine Trip.of Tryz.func199 (by decide) (c:=_) Y Y (Nat.le_of_ble_eq_true Y) Y (AftOk.nil _)<|.sla (t:=0) 0 Y Y fun hs1l=>.sla (t:=0) 1 Y Y fun hs2l=>.sla (t:=0) 2 Y Y fun hs3l=>.sla (t:=1) 1 Y Y fun hs4l=>.sla (t:=1) 2 Y Y fun hs5l=>.seq<|.rs fun k6=>.g (fun _ τ=>⟨_,.box (.no Y) Y Y Y Y Y τ⟩) ?_
 refine .g (fun _ τ=>⟨_,.box (.no Y) Y Y Y Y Y τ⟩)<|.as Y<|.z<|.seq<|.seq<|.rs fun k7=>.fp t98 t4 Y<|.ld t4 Y (.ptr _ _ _ _ _ Y) Y<|.un Y ?_
 refine .z ?_
 refine .cond (t:=!e.live) Y (fun c0=>?_) (fun c0=>?_)
 ·have c0:=(nT id) c0
  refine .seq ?_
  refine .reg (X:=Unit) (fun ζ=>.of [(4,.one (.d (.v (.bool (((e.ints.length:Int) == 0&&(e.arrs.length:Int) == 0))))))] []) [⟨[3],some 8,[],[]⟩,⟨[8],some 9,[[3]],[]⟩,⟨[9],some 10,[],[]⟩,⟨[10],some 11,[],[]⟩,⟨[11],some 12,[],[]⟩,⟨[12,3],some 13,[],[]⟩,⟨[12,13],some 14,[[3]],[]⟩,⟨[12,14],some 15,[],[]⟩,⟨[12,15],some 16,[],[]⟩,⟨[12,16],some 17,[],[]⟩,⟨[17],some 4,[],[]⟩] (fun k8=>?_) ?_
  ·skip
   refine .fieldAddrP (.no Y) Y t98 Y Y t96 Y Y Y Y<|.load (.no Y) Y t96 Y Y (.ptr _ _ _ _ _ Y) Y Y Y Y<|.len (.no Y) Y (z:=(e.ints.length:Int)) t96 Y Y Y (.d _ _) (map_len _ _) Y<|.bin (.no Y) Y Y Y Y Y Y<|.moveB (.no Y) Y Y Y Y fun b9 g2_4=>?_
   cases b9
   ·skip
    refine .off Y Y Y Y Y Y Y<|.off Y Y Y Y Y Y Y<|.off Y Y Y Y Y Y Y<|.off Y Y Y Y Y Y Y<|.pick (.no Y) Y Y Y Y Y<|.assign (.no Y) Y Y Y Y ?_
    exact .fin () (.of (.cons (svB (show (false)=(((e.ints.length:Int) == 0&&(e.arrs.length:Int) == 0)) by first | (simp only [g2_4,Bool.true_or,Bool.false_or,Bool.true_and,Bool.false_and,Bool.not_true,Bool.not_false]; done) | (simp [g2_4]; done) | (exfalso; simp_all; done))) .nil) .nil)
   ·skip
    refine .fieldAddrP (.on Y Y Y Y Y) Y t98 Y Y t96 Y Y Y Y<|.load (.on Y Y Y Y Y) Y t96 Y Y (.ptr _ _ _ _ _ Y) Y Y Y Y<|.len (.on Y Y Y Y Y) Y (z:=(e.arrs.length:Int)) t96 Y Y Y (.d _ _) (map_len _ _) Y<|.bin (.on Y Y Y Y Y) Y Y Y Y Y Y<|.pick (.no Y) Y Y Y Y Y<|.assign (.no Y) Y Y Y Y ?_
    exact .fin () (.of (.cons (svB (show ((e.arrs.length:Int) == 0)=(((e.ints.length:Int) == 0&&(e.arrs.length:Int) == 0)) by first | (simp only [g2_4,Bool.true_or,Bool.false_or,Bool.true_and,Bool.false_and,Bool.not_true,Bool.not_false]; done) | (simp [g2_4]; done) | (exfalso; simp_all; done))) .nil) .nil)
  intro _
  refine .ret ?_
  exact fin0 (.inr Y) (.one (svB (show (((e.ints.length:Int) == 0&&(e.arrs.length:Int) == 0))=(Env.okIn d e) by simp [Env.okIn,c0,Bool.and_assoc])) .nil) (.dd .nil) Y
 ·have c0:=(nF id) c0
  refine .skip<|.seq ?_
  refine .reg (X:=Unit) (fun ζ=>.of [(4,.one (.d (.v (.bool (((((e.ints.length:Int) == (d.vars.length:Int)&&(e.arrs.length:Int) == (d.arrays.length:Int))&&e.ints.all (fun x0=>Iv.ok x0))&&e.arrs.all (fun x0=>Iv.ok x0)))))))] []) [⟨[3],some 18,[],[]⟩,⟨[18],some 19,[[3]],[]⟩,⟨[19],some 20,[],[]⟩,⟨[2],some 21,[],[]⟩,⟨[21],some 22,[[2]],[]⟩,⟨[22],some 23,[],[]⟩,⟨[20,23],some 24,[],[]⟩,⟨[24],some 25,[],[]⟩,⟨[25,3],some 26,[],[]⟩,⟨[25,26],some 27,[[3]],[]⟩,⟨[25,27],some 28,[],[]⟩,⟨[25,2],some 29,[],[]⟩,⟨[25,29],some 30,[[2]],[]⟩,⟨[25,30],some 31,[],[]⟩,⟨[25,28,31],some 32,[],[]⟩,⟨[25,32],some 33,[],[]⟩,⟨[33],some 34,[],[]⟩,⟨[34,3],some 35,[],[]⟩,⟨[34,35],some 36,[[3]],[]⟩,⟨[34,36],some 37,[],[]⟩,⟨[34,37],some 38,[],[]⟩,⟨[38],some 39,[],[]⟩,⟨[39,3],some 40,[],[]⟩,⟨[39,40],some 41,[[3]],[]⟩,⟨[39,41],some 42,[],[]⟩,⟨[39,42],some 43,[],[]⟩,⟨[43],some 4,[],[]⟩] (fun k11=>?_) ?_
  ·skip
   refine .fieldAddrP (.no Y) Y t98 Y Y t96 Y Y Y Y<|.load (.no Y) Y t96 Y Y (.ptr _ _ _ _ _ Y) Y Y Y Y<|.len (.no Y) Y (z:=(e.ints.length:Int)) t96 Y Y Y (.d _ _) (map_len _ _) Y<|.fieldAddrP (.no Y) Y t33 Y Y t22 Y Y Y Y<|.load (.no Y) Y t22 Y Y (.ptr _ _ _ _ _ Y) Y Y Y Y<|.len (.no Y) Y (z:=(d.vars.length:Int)) t22 Y Y Y (.d _ _) (map_len _ _) Y<|.bin (.no Y) Y Y Y Y Y Y<|.moveB (.no Y) Y Y Y Y fun b12 g3_7=>?_
   cases b12
   ·skip
    refine .off Y Y Y Y Y Y Y<|.off Y Y Y Y Y Y Y<|.off Y Y Y Y Y Y Y<|.off Y Y Y Y Y Y Y<|.off Y Y Y Y Y Y Y<|.off Y Y Y Y Y Y Y<|.off Y Y Y Y Y Y Y<|.pick (.no Y) Y Y Y Y Y<|.move (.no Y) Y Y Y Y ?_
    refine .off Y Y Y Y Y Y Y<|.off Y Y Y Y Y Y Y<|.off Y Y Y Y Y Y Y<|.pick (.no Y) Y Y Y Y Y<|.move (.no Y) Y Y Y Y<|.off Y Y Y Y Y Y Y<|.off Y Y Y Y Y Y Y<|.off Y Y Y Y Y Y Y<|.pick (.no Y) Y Y Y Y Y ?_
    refine .assign (.no Y) Y Y Y Y ?_
    exact .fin () (.of (.cons (svB (show (false)=(((((e.ints.length:Int) == (d.vars.length:Int)&&(e.arrs.length:Int) == (d.arrays.length:Int))&&e.ints.all (fun x0=>Iv.ok x0))&&e.arrs.all (fun x0=>Iv.ok x0))) by first | (simp only [g3_7,Bool.true_or,Bool.false_or,Bool.true_and,Bool.false_and,Bool.not_true,Bool.not_false]; done) | (simp [g3_7]; done) | (exfalso; simp_all; done))) .nil) .nil)
   ·skip
    refine .fieldAddrP (.on Y Y Y Y Y) Y t98 Y Y t96 Y Y Y Y<|.load (.on Y Y Y Y Y) Y t96 Y Y (.ptr _ _ _ _ _ Y) Y Y Y Y<|.len (.on Y Y Y Y Y) Y (z:=(e.arrs.length:Int)) t96 Y Y Y (.d _ _) (map_len _ _) Y<|.fieldAddrP (.on Y Y Y Y Y) Y t33 Y Y t31 Y Y Y Y<|.load (.on Y Y Y Y Y) Y t31 Y Y (.ptr _ _ _ _ _ Y) Y Y Y Y<|.len (.on Y Y Y Y Y) Y (z:=(d.arrays.length:Int)) t31 Y Y Y (.d _ _) (map_len _ _) Y<|.bin (.on Y Y Y Y Y) Y Y Y Y Y Y<|.pick (.no Y) Y Y Y Y Y<|.moveB (.no Y) Y Y Y Y fun b13 g3_16=>?_
    cases b13
    ·skip
     refine .off Y Y Y Y Y Y Y<|.off Y Y Y Y Y Y Y<|.off Y Y Y Y Y Y Y<|.pick (.no Y) Y Y Y Y Y<|.move (.no Y) Y Y Y Y<|.off Y Y Y Y Y Y Y<|.off Y Y Y Y Y Y Y<|.off Y Y Y Y Y Y Y<|.pick (.no Y) Y Y Y Y Y ?_
     refine .assign (.no Y) Y Y Y Y ?_
     exact .fin () (.of (.cons (svB (show (false)=(((((e.ints.length:Int) == (d.vars.length:Int)&&(e.arrs.length:Int) == (d.arrays.length:Int))&&e.ints.all (fun x0=>Iv.ok x0))&&e.arrs.all (fun x0=>Iv.ok x0))) by first | (simp only [g3_7,g3_16,Bool.true_or,Bool.false_or,Bool.true_and,Bool.false_and,Bool.not_true,Bool.not_false]; done) | (simp [g3_7,g3_16]; done) | (exfalso; simp_all; done))) .nil) .nil)
    ·skip
     refine .fieldAddrP (.on Y Y Y Y Y) Y t98 Y Y t96 Y Y Y Y<|.load (.on Y Y Y Y Y) Y t96 Y Y (.ptr _ _ _ _ _ Y) Y Y Y Y<|.call (.on Y Y Y Y Y) Y [] [] (c_areAllI e.ints 150 [] [] (fun x0=>Iv.ok x0) (fun x0=>c_IvOk x0)) Y Y Y Y Y (.dd (.dd .nil)) Y Y (fun h=>absurd Y h) (.own [37,0] .nil) (.nil) Y Y Y (by simp) Y Y Y<|.pick (.no Y) Y Y Y Y Y<|.moveB (.no Y) Y Y Y Y fun b14 g3_21=>?_
     cases b14
     ·skip
      refine .off Y Y Y Y Y Y Y<|.off Y Y Y Y Y Y Y<|.off Y Y Y Y Y Y Y<|.pick (.no Y) Y Y Y Y Y<|.assign (.no Y) Y Y Y Y ?_
      exact .fin () (.of (.cons (svB (show (false)=(((((e.ints.length:Int) == (d.vars.length:Int)&&(e.arrs.length:Int) == (d.arrays.length:Int))&&e.ints.all (fun x0=>Iv.ok x0))&&e.arrs.all (fun x0=>Iv.ok x0))) by first | (simp only [g3_7,g3_16,g3_21,Bool.true_or,Bool.false_or,Bool.true_and,Bool.false_and,Bool.not_true,Bool.not_false]; done) | (simp [g3_7,g3_16,g3_21]; done) | (exfalso; simp_all; done))) .nil) .nil)
     ·skip
      refine .fieldAddrP (.on Y Y Y Y Y) Y t98 Y Y t96 Y Y Y Y<|.load (.on Y Y Y Y Y) Y t96 Y Y (.ptr _ _ _ _ _ Y) Y Y Y Y<|.call (.on Y Y Y Y Y) Y [] [] (c_areAllI e.arrs 150 [] [] (fun x0=>Iv.ok x0) (fun x0=>c_IvOk x0)) Y Y Y Y Y (.dd (.dd .nil)) Y Y (fun h=>absurd Y h) (.own [42,0] .nil) (.nil) Y Y Y (by simp) Y Y Y<|.pick (.no Y) Y Y Y Y Y<|.assign (.no Y) Y Y Y Y ?_
      exact .fin () (.of (.cons (svB (show (e.arrs.all (fun x0=>Iv.ok x0))=(((((e.ints.length:Int) == (d.vars.length:Int)&&(e.arrs.length:Int) == (d.arrays.length:Int))&&e.ints.all (fun x0=>Iv.ok x0))&&e.arrs.all (fun x0=>Iv.ok x0))) by first | (simp only [g3_7,g3_16,g3_21,Bool.true_or,Bool.false_or,Bool.true_and,Bool.false_and,Bool.not_true,Bool.not_false]; done) | (simp [g3_7,g3_16,g3_21]; done) | (exfalso; simp_all; done))) .nil) .nil)
  intro _
  refine .ret ?_
  exact fin0 (.inr Y) (.one (svB (show (((((e.ints.length:Int) == (d.vars.length:Int)&&(e.arrs.length:Int) == (d.arrays.length:Int))&&e.ints.all (fun x0=>Iv.ok x0))&&e.arrs.all (fun x0=>Iv.ok x0)))=(Env.okIn d e) by simp [Env.okIn,c0,Bool.and_assoc])) .nil) (.dd .nil) Y
end Go.Proofs

namespace Go.Proofs
open Go Go.Proofs Go.Ev

theorem c_CloneI (l:List Iv) (hb:l.length≤2097152):Trip Tryz.prog 190 [(false,1)] ([.sl false 119 2 (List.map Iv.c (l))]) [(false,1)] [.sl true 119 2 (List.map Iv.c (l))] []:=by
 refine Trip.of Tryz.func190 (by decide) (c:=_) Y Y (Nat.le_of_ble_eq_true Y) Y (AftOk.nil _)<|.sl (t:=0) Y fun hs1l=>.seq<|.rs fun k2=>.as Y<|.z<|.seq<|.seq ?_
 refine .nilEq t96 Y Y Y Y Y Y Y Y Y Y Y (fun b3 hb3=>?_)
 refine .cond (t:=b3) Y (fun c0=>?_) (fun c0=>?_)
 ·have c0:=c0
  refine .seq<|.rs fun k4=>.as Y<|.z<|.ret ?_
  exact fin0 (.inr Y) (.one Y .nil) (.cons (Gives.nil' (by first | rfl | simp_all)) .nil) Y
 ·have c0:=c0
  refine .skip<|.seq<|.rs fun k5=>.g (fun _ τ=>⟨_,.buildSlice (.no Y) Y (els:=[]) t96 Y z119 Y Y Y Y Y Y Y Y (by simp [i119]) .nil Y Y Y τ⟩)<|.mv Y<|.g (fun _ τ=>⟨_,.append (.no Y) Y (l3:=List.map Iv.c (l)) t96 Y z119 Y Y Y Y Y Y Y Y (.ref _ _ _ _ Y) (.ro _ _) Y (by simp [i119]; omega) (List.nil_append _) Y Y τ⟩)<|.as Y<|.z<|.ret ?_
  exact fin1 (.inr Y) [] [([5],(k5+1+1,k5+1+1,.row 119 2 (List.map Iv.c (l))))] (.one Y .nil) (.cons (.ref (.head _)) .nil) Y Y (.r Y)
theorem c_own (e:Env) (hb:e.ints.length≤1048576∧e.arrs.length≤1048576):Trip Tryz.prog 149 [(true,3)] (Env.c98 e) [(true,3)] [.v (.bool (e.live)),.sl true 119 2 (List.map Iv.c (e.ints)),.sl true 119 2 (List.map Iv.c (e.arrs))] []:=by
 refine Trip.of Tryz.func149 (by decide) (c:=_) Y Y (Nat.le_of_ble_eq_true Y) Y (AftOk.nil _)<|.sla (t:=0) 1 Y Y fun hs1l=>.sla (t:=0) 2 Y Y fun hs2l=>.seq<|.rs fun k3=>.g (fun _ τ=>⟨_,.box (.no Y) Y Y Y Y Y τ⟩)<|.g (fun _ τ=>⟨_,.alloc (.no Y) Y z98 Y Y Y τ⟩)<|.z<|.seq ?_
 refine .regD (X:=Nat × Nat × Nat) (by kernel_rfl) (fun ζ=>.of [(1,.one (.ptr [1] (k3) 0)),(2,.one (.ptr [2] (k3+1) 0))] [([1],(k3,ζ.1,.box [.d (.v (.bool (e.live))),.ref [5,0] (ζ.2.1),.ref [8,0] (ζ.2.2)])),([2],(k3+1,k3+1,.box [.d (.v (.bool (false))),.d (.v (.slice none 0 0)),.d (.v (.slice none 0 0))])),([5,0],(ζ.2.1,ζ.2.1,.row 119 2 (List.map Iv.c (e.ints)))),([8,0],(ζ.2.2,ζ.2.2,.row 119 2 (List.map Iv.c (e.arrs))))]) [⟨[1],some 3,[],[]⟩,⟨[3],some 4,[[1]],[]⟩,⟨[4],some 5,[],[[5,0]]⟩,⟨[1],some 6,[],[]⟩,⟨[6],some 7,[[1]],[]⟩,⟨[7],some 8,[],[[8,0]]⟩,⟨[1],some 9,[],[]⟩,⟨[9,5],none,[[1]],[[1]]⟩,⟨[1],some 10,[],[]⟩,⟨[10,8],none,[[1]],[[1]]⟩] (by kernel_rfl) (fun k4=>?_) ?_
 ·skip
  refine .fieldAddrP (.no Y) Y t98 Y Y t96 Y Y Y Y<|.load (.no Y) Y t96 Y Y (.ptr _ _ _ _ _ Y) Y Y Y Y<|.call (.no Y) Y [] [] (c_CloneI e.ints (by omega)) Y Y Y Y Y (.dd .nil) Y Y (fun h=>absurd Y h) (.own [5,0] .nil) (.nil) Y Y Y (by simp) Y Y Y<|.fieldAddrP (.no Y) Y t98 Y Y t96 Y Y Y Y<|.load (.no Y) Y t96 Y Y (.ptr _ _ _ _ _ Y) Y Y Y Y<|.call (.no Y) Y [] [] (c_CloneI e.arrs (by omega)) Y Y Y Y Y (.dd .nil) Y Y (fun h=>absurd Y h) (.own [8,0] .nil) (.nil) Y Y Y (by simp) Y Y Y<|.fieldAddrP (.no Y) Y t98 Y Y t96 Y Y Y Y<|.store (.no Y) Y t96 Y Y Y Y Y Y Y Y Y<|.fieldAddrP (.no Y) Y t98 Y Y t96 Y Y Y Y ?_
  refine .store (.no Y) Y t96 Y Y Y Y Y Y Y Y Y ?_
  exact .fin (k4+1+1+1+1+1+1+1+1+1,k4+1+1,k4+1+1+1+1+1) (.of (.r Y) (.r Y))
 rintro ⟨g5,g6,g7⟩
 refine .seq<|.rs fun k8=>.lda t98 Y (.ptr _ _ _ _ _ Y) Y<|.g (fun _ τ=>⟨_,.store (.no Y) Y t98 Y Y Y Y Y Y Y Y Y τ⟩)<|.z<|.ret ?_
 exact fin1 (.inr Y) [] [([5,0],(g6,g6,.row 119 2 (List.map Iv.c (e.ints)))),([8,0],(g7,g7,.row 119 2 (List.map Iv.c (e.arrs))))] (.cell (cells:=[.d (.v (.bool (e.live))),.ref [5,0] (g6),.ref [8,0] (g7)]) Y Y t98 Y Y .nil) (.dd (.cons (.ref (.head _)) (.cons (.ref (.tail _ (.head _))) .nil))) Y Y (.r Y)
theorem c_joined (a:List Iv) (b:List Iv) (F_f:FuncId) (first_f:List (Bool × List D)) (caps_f:List D) (f:Iv→Iv→Iv) (h_f:∀ (x0:Iv) (x1:Iv),FnTrip Tryz.prog F_f first_f caps_f [(true,2),(true,2)] (Iv.c x0++Iv.c x1) [(true,2)] [.v (.int .i64 ((f x0 x1).lo)),.v (.int .i64 ((f x0 x1).hi))]) (hl:a.length=b.length∧a.length≤2097152):Trip Tryz.prog 188 [(false,1),(false,1),(false,1)] ([.sl false 119 2 (List.map Iv.c (a))]++[.sl false 119 2 (List.map Iv.c (b))]++[.fn F_f first_f caps_f]) [(false,1)] [.sl true 119 2 (List.map Iv.c (zip2 f a b))] []:=by
 refine Trip.of Tryz.func188 (by decide) (c:=_) Y Y (Nat.le_of_ble_eq_true Y) Y (AftOk.nil _)<|.sl (t:=0) Y fun hs1l=>.sl (t:=1) Y fun hs2l=>.seq<|.rs fun k3=>.as Y<|.z<|.seq<|.rs fun k4=>?_
 refine .as Y<|.z<|.seq<|.seq<|.rs fun k5=>.mv Y<|.g (fun _ τ=>⟨_,.len (.no Y) Y (z:=(a.length:Int)) t96 Y Y Y (.d _ _) (map_len _ _) Y τ⟩)<|.mv Y<|.z ?_
 refine .block ?_
 refine .loop (X:=Nat × Nat × Nat) (fun ζ=>.of [(1,.one (.d (.sl false 119 2 (List.map Iv.c (b))))),(2,.one (.d (.fn F_f first_f caps_f))),(7,.one (.ref [26] (ζ.2.1))),(10,.one (.d (.sl false 119 2 (List.map Iv.c (a))))),(11,.one (.d (.v (.int .i64 ((a.length:Int)))))),(12,.one (.d (.v (.int .i64 ((ζ.1:Int))))))] [([26],(ζ.2.1,ζ.2.2,.row 119 2 (List.map Iv.c (zip2To f a b ζ.1))))]) (fun ζ=>ζ.1≤a.length) (fun ζ=>a.length - ζ.1) ?_ ?_
 ·skip
  refine .nilRow 7 [26] 119 2 Y fun k8=>?_
  exact .here (0,k8,k8) (.of (.cons Y (.cons Y (.cons Y (.cons Y (.cons Y (.cons (svI (show (0)=((0:Int)) by first | rfl | omega | exact wrap_le (by omega) (by omega) | (rw [wrap_le (by omega) (by omega)]; omega))) .nil)))))) (.cons (rowE (show []=List.map Iv.c (zip2To f a b 0) by first | rfl | exact congrArg _ (zip2To_step _ _ _ _))) .nil)) (show 0≤a.length by omega)
 ·rintro ⟨j,q6,q7⟩ hI
  have hI:j≤a.length:=hI
  dsimp only
  refine .seq<|.rs fun k9=>.bi Y<|.z<|.seq ?_
  refine .cond (t:=decide ((j:Int) < (a.length:Int))) Y (fun c0=>?_) (fun c0=>?_)
  ·have c0:=of_decide_eq_true c0
   refine .skip<|.seq<|.block<|.seq<|.rs fun k10=>.mv Y<|.g (fun _ τ=>⟨_,.indexAddr (.no Y) Y (j) t96 Y t119 Y Y Y (.d _ _) Y Y Y (map_get (by omega)) Y Y τ⟩)<|.lda t119 Y (.d _) Y<|.g (fun _ τ=>⟨_,.alloc (.no Y) Y z119 Y Y Y τ⟩) ?_
   refine .as Y<|.g (fun _ τ=>⟨_,.store (.no Y) Y t119 Y Y Y Y Y Y Y Y Y τ⟩)<|.z ?_
   refine .regD (X:=Nat) (by kernel_rfl) (fun ζ=>.of [(1,.one (.d (.sl false 119 2 (List.map Iv.c (b))))),(2,.one (.d (.fn F_f first_f caps_f))),(7,.one (.ref [26] (ζ))),(10,.one (.d (.sl false 119 2 (List.map Iv.c (a))))),(11,.one (.d (.v (.int .i64 ((a.length:Int)))))),(12,.one (.d (.v (.int .i64 ((j:Int))))))] [([26],(ζ,ζ,.row 119 2 (List.map Iv.c (zip2To f a b j++[(f (a.getD j default) (b.getD j default))]))))]) [⟨[7],some 17,[],[]⟩,⟨[2],some 18,[],[]⟩,⟨[9],some 19,[[9]],[]⟩,⟨[1],some 20,[],[]⟩,⟨[8],some 21,[],[]⟩,⟨[20,21],some 22,[],[]⟩,⟨[22],some 23,[],[]⟩,⟨[18,19,23],some 24,[],[]⟩,⟨[24],some 25,[],[[25]]⟩,⟨[17,25],some 26,[[26],[25]],[[25],[26]]⟩,⟨[26],some 7,[],[]⟩] (by kernel_rfl) (fun k11=>?_) ?_
   ·skip
    refine .move (.no Y) Y Y Y Y<|.move (.no Y) Y Y Y Y<|.load (.no Y) Y t119 Y Y (.ptr _ _ _ _ _ Y) Y Y Y Y<|.move (.no Y) Y Y Y Y<|.move (.no Y) Y Y Y Y<|.indexAddr (.no Y) Y (j) t96 Y t119 Y Y Y (.d _ _) Y Y Y (map_get (by omega)) Y Y<|.load (.no Y) Y t119 Y Y (.d _) Y Y Y Y<|.callF (.no Y) Y (ds:=[.v (.int .i64 ((a.getD j default).lo)),.v (.int .i64 ((a.getD j default).hi)),.v (.int .i64 ((b.getD j default).lo)),.v (.int .i64 ((b.getD j default).hi))]) (h_f (a.getD j default) (b.getD j default)) Y Y Y Y (.own [24,0] (.own [24,1] .nil)) Y Y Y Y Y Y ?_
    refine .buildSlice (.no Y) Y (els:=[[.v (.int .i64 ((f (a.getD j default) (b.getD j default)).lo)),.v (.int .i64 ((f (a.getD j default) (b.getD j default)).hi))]]) t96 Y z119 Y Y Y Y Y Y Y Y (by simp [i119]) (.cons _ _ _ _ _ _ (.d _) (.cons _ _ _ _ _ _ (.d _) .nil)) Y Y Y<|.append (.no Y) Y (l3:=List.map Iv.c (zip2To f a b j++[(f (a.getD j default) (b.getD j default))])) t96 Y z119 Y Y Y Y Y Y Y Y (.ref _ _ _ _ Y) (.take _ _ _ _ _ Y) Y (by simp only [List.length_map,zip2To_len,i119]; simp; omega) (map_snoc _ _ _) Y Y<|.assign (.no Y) Y Y Y Y ?_
    exact .fin (k11+1+1+1+1+1+1+1+1+1) (.of (.r Y) (.r Y))
   intro g12
   refine .rs fun k13=>.bi Y<|.mv Y<|.z ?_
   exact .here ((j+1),g12,g12) (.of (.cons Y (.cons Y (.cons Y (.cons Y (.cons Y (.cons (svI (show (IntKind.wrap .i64 ((j:Int)+1))=(((j+1):Int)) by first | rfl | omega | exact wrap_le (by omega) (by omega) | (rw [wrap_le (by omega) (by omega)]; omega))) .nil)))))) (.cons (rowE (show List.map Iv.c (zip2To f a b j++[(f (a.getD j default) (b.getD j default))])=List.map Iv.c (zip2To f a b (j+1)) by first | rfl | exact congrArg _ (zip2To_step _ _ _ _))) .nil)) ⟨(show (j+1)≤a.length by omega),(show a.length - (j+1) < a.length - j by omega)⟩
  ·have c0:=of_decide_eq_false c0
   refine .exit<|.seq<|.rs fun k14=>.mv Y<|.as Y<|.z<|.ret ?_
   have e15:(zip2To f a b j)=(zip2 f a b):=by exact zip2To_all _ hI (by omega)
   exact fin1 (.inr Y) [] [([26],(q6,q7,.row 119 2 (List.map Iv.c (zip2 f a b))))] (.one Y .nil) (.cons (.ref (.head _)) .nil) Y Y (.cons (rowE (congrArg (List.map Iv.c) e15)) .nil)
theorem c_with (e:Env) (b:Env) (F_f:FuncId) (first_f:List (Bool × List D)) (caps_f:List D) (f:Iv→Iv→Iv) (h_f:∀ (x0:Iv) (x1:Iv),FnTrip Tryz.prog F_f first_f caps_f [(true,2),(true,2)] (Iv.c x0++Iv.c x1) [(true,2)] [.v (.int .i64 ((f x0 x1).lo)),.v (.int .i64 ((f x0 x1).hi))]) (hj:e.live=true→b.live=true→e.ints.length=b.ints.length∧e.arrs.length=b.arrs.length) (hb:e.ints.length≤1048576∧e.arrs.length≤1048576∧b.ints.length≤1048576∧b.arrs.length≤1048576):Trip Tryz.prog 145 [(true,3),(true,3),(false,1)] (Env.c98 e++Env.c98 b++[.fn F_f first_f caps_f]) [(true,3)] [.v (.bool ((Env.joinW f e b).live)),.sl true 119 2 (List.map Iv.c ((Env.joinW f e b).ints)),.sl true 119 2 (List.map Iv.c ((Env.joinW f e b).arrs))] []:=by
 refine Trip.of Tryz.func145 (by decide) (c:=_) Y Y (Nat.le_of_ble_eq_true Y) Y (AftOk.nil _)<|.sla (t:=0) 1 Y Y fun hs1l=>.sla (t:=0) 2 Y Y fun hs2l=>.sla (t:=1) 1 Y Y fun hs3l=>.sla (t:=1) 2 Y Y fun hs4l=>.seq<|.rs fun k5=>.g (fun _ τ=>⟨_,.box (.no Y) Y Y Y Y Y τ⟩)<|.g (fun _ τ=>⟨_,.box (.no Y) Y Y Y Y Y τ⟩) ?_
 refine .g (fun _ τ=>⟨_,.alloc (.no Y) Y z98 Y Y Y τ⟩)<|.z<|.seq<|.block<|.seq<|.rs fun k6=>.fp t98 t4 Y<|.ld t4 Y (.ptr _ _ _ _ _ Y) Y<|.un Y ?_
 refine .as Y<|.z ?_
 refine .cond (t:=!e.live) Y (fun c0=>?_) (fun c0=>?_)
 ·have c0:=(nT id) c0
  refine .seq<|.rs fun k7=>.lda t98 Y (.ptr _ _ _ _ _ Y) Y<|.c0 (c_own b (by first | omega | (have hj9:=hj c0 c1; omega))) Y (.dd (.dd (.dd .nil))) (.own [12,0] (.own [12,1] (.own [12,2] .nil))) Y<|.g (fun _ τ=>⟨_,.store (.no Y) Y t98 Y Y Y Y Y Y Y Y Y τ⟩)<|.z<|.ret ?_
  have e8:(b.live)=((Env.joinW f e b).live):=by simp [Env.joinW,c0]
  have e9:(b.ints)=((Env.joinW f e b).ints):=by simp [Env.joinW,c0]
  have e10:(b.arrs)=((Env.joinW f e b).arrs):=by simp [Env.joinW,c0]
  have hc11:=eq1 (fun z1=>some (k5+1+1,k7+1+1,O.box [.d (.v (.bool (z1))),.ref [12,1] (k7+1),.ref [12,2] (k7+1)])) e8
  exact fin1 (.inr Y) [] [([12,1],(k7+1,k7+1,.row 119 2 (List.map Iv.c ((Env.joinW f e b).ints)))),([12,2],(k7+1,k7+1,.row 119 2 (List.map Iv.c ((Env.joinW f e b).arrs))))] (.cell (cells:=[.d (.v (.bool ((Env.joinW f e b).live))),.ref [12,1] (k7+1),.ref [12,2] (k7+1)]) Y hc11 t98 Y Y .nil) (.dd (.cons (.ref (.head _)) (.cons (.ref (.tail _ (.head _))) .nil))) Y Y (.cons (rowE (congrArg (List.map Iv.c) e9)) (.cons (rowE (congrArg (List.map Iv.c) e10)) .nil))
 ·have c0:=(nF id) c0
  refine .seq<|.rs fun k12=>.fp t98 t4 Y<|.ld t4 Y (.ptr _ _ _ _ _ Y) Y<|.un Y<|.as Y<|.z ?_
  refine .cond (t:=!b.live) Y (fun c1=>?_) (fun c1=>?_)
  ·have c1:=(nT id) c1
   refine .seq<|.rs fun k13=>.lda t98 Y (.ptr _ _ _ _ _ Y) Y<|.c0 (c_own e (by first | omega | (have hj9:=hj c0 c1; omega))) Y (.dd (.dd (.dd .nil))) (.own [18,0] (.own [18,1] (.own [18,2] .nil))) Y<|.g (fun _ τ=>⟨_,.store (.no Y) Y t98 Y Y Y Y Y Y Y Y Y τ⟩)<|.z<|.ret ?_
   have e14:(e.live)=((Env.joinW f e b).live):=by simp [Env.joinW,c0,c1]
   have e15:(e.ints)=((Env.joinW f e b).ints):=by simp [Env.joinW,c0,c1]
   have e16:(e.arrs)=((Env.joinW f e b).arrs):=by simp [Env.joinW,c0,c1]
   have hc17:=eq1 (fun z1=>some (k5+1+1,k13+1+1,O.box [.d (.v (.bool (z1))),.ref [18,1] (k13+1),.ref [18,2] (k13+1)])) e14
   exact fin1 (.inr Y) [] [([18,1],(k13+1,k13+1,.row 119 2 (List.map Iv.c ((Env.joinW f e b).ints)))),([18,2],(k13+1,k13+1,.row 119 2 (List.map Iv.c ((Env.joinW f e b).arrs))))] (.cell (cells:=[.d (.v (.bool ((Env.joinW f e b).live))),.ref [18,1] (k13+1),.ref [18,2] (k13+1)]) Y hc17 t98 Y Y .nil) (.dd (.cons (.ref (.head _)) (.cons (.ref (.tail _ (.head _))) .nil))) Y Y (.cons (rowE (congrArg (List.map Iv.c) e15)) (.cons (rowE (congrArg (List.map Iv.c) e16)) .nil))
  ·have c1:=(nF id) c1
   refine .skip<|.seq ?_
   refine .regD (X:=Nat × Nat × Nat) (by kernel_rfl) (fun ζ=>.of [(6,.one (.ptr [6] (k5+1+1) 0))] [([6],(k5+1+1,ζ.1,.box [.d (.v (.bool (true))),.ref [24,0] (ζ.2.1),.ref [30,0] (ζ.2.2)])),([24,0],(ζ.2.1,ζ.2.1,.row 119 2 (List.map Iv.c (zip2 f e.ints b.ints)))),([30,0],(ζ.2.2,ζ.2.2,.row 119 2 (List.map Iv.c (zip2 f e.arrs b.arrs))))]) [⟨[3],some 19,[],[]⟩,⟨[19],some 20,[[3]],[]⟩,⟨[4],some 21,[],[]⟩,⟨[21],some 22,[[4]],[]⟩,⟨[2],some 23,[],[]⟩,⟨[20,22,23],some 24,[],[[24,0]]⟩,⟨[3],some 25,[],[]⟩,⟨[25],some 26,[[3]],[]⟩,⟨[4],some 27,[],[]⟩,⟨[27],some 28,[[4]],[]⟩,⟨[2],some 29,[],[]⟩,⟨[26,28,29],some 30,[],[[30,0]]⟩,⟨[24,30],some 31,[],[]⟩,⟨[6,31],none,[[6]],[[6]]⟩] (by kernel_rfl) (fun k18=>?_) ?_
   ·skip
    refine .fieldAddrP (.no Y) Y t98 Y Y t96 Y Y Y Y<|.load (.no Y) Y t96 Y Y (.ptr _ _ _ _ _ Y) Y Y Y Y<|.fieldAddrP (.no Y) Y t98 Y Y t96 Y Y Y Y<|.load (.no Y) Y t96 Y Y (.ptr _ _ _ _ _ Y) Y Y Y Y<|.move (.no Y) Y Y Y Y<|.call (.no Y) Y [] [] (c_joined e.ints b.ints F_f first_f caps_f f h_f (by first | omega | (have hj9:=hj c0 c1; omega))) Y Y Y Y Y (.dd (.dd (.dd .nil))) Y Y (fun h=>absurd Y h) (.own [24,0] .nil) (.nil) Y Y Y (by simp) Y Y Y<|.fieldAddrP (.no Y) Y t98 Y Y t96 Y Y Y Y<|.load (.no Y) Y t96 Y Y (.ptr _ _ _ _ _ Y) Y Y Y Y<|.fieldAddrP (.no Y) Y t98 Y Y t96 Y Y Y Y ?_
    refine .load (.no Y) Y t96 Y Y (.ptr _ _ _ _ _ Y) Y Y Y Y<|.move (.no Y) Y Y Y Y<|.call (.no Y) Y [] [] (c_joined e.arrs b.arrs F_f first_f caps_f f h_f (by first | omega | (have hj9:=hj c0 c1; omega))) Y Y Y Y Y (.dd (.dd (.dd .nil))) Y Y (fun h=>absurd Y h) (.own [30,0] .nil) (.nil) Y Y Y (by simp) Y Y Y<|.build (.no Y) Y z98 Y p98 Y Y Y Y<|.store (.no Y) Y t98 Y Y Y Y Y Y Y Y Y ?_
    exact .fin (k18+1+1+1+1+1+1+1+1+1+1+1+1+1,k18+1+1+1+1+1,k18+1+1+1+1+1+1+1+1+1+1+1) (.of (.r Y) (.r Y))
   rintro ⟨g19,g20,g21⟩
   refine .ret ?_
   have e22:(true)=((Env.joinW f e b).live):=by simp [Env.joinW,c0,c1]
   have e23:(zip2 f e.ints b.ints)=((Env.joinW f e b).ints):=by simp [Env.joinW,c0,c1]
   have e24:(zip2 f e.arrs b.arrs)=((Env.joinW f e b).arrs):=by simp [Env.joinW,c0,c1]
   have hc25:=eq1 (fun z1=>some (k5+1+1,g19,O.box [.d (.v (.bool (z1))),.ref [24,0] (g20),.ref [30,0] (g21)])) e22
   exact fin1 (.inr Y) [] [([24,0],(g20,g20,.row 119 2 (List.map Iv.c ((Env.joinW f e b).ints)))),([30,0],(g21,g21,.row 119 2 (List.map Iv.c ((Env.joinW f e b).arrs))))] (.cell (cells:=[.d (.v (.bool ((Env.joinW f e b).live))),.ref [24,0] (g20),.ref [30,0] (g21)]) Y hc25 t98 Y Y .nil) (.dd (.cons (.ref (.head _)) (.cons (.ref (.tail _ (.head _))) .nil))) Y Y (.cons (rowE (congrArg (List.map Iv.c) e23)) (.cons (rowE (congrArg (List.map Iv.c) e24)) .nil))
theorem c_areIvs (a:Iv) (b:Iv):Trip Tryz.prog 100 [(true,2),(true,2)] (Iv.c a++Iv.c b) [(false,1)] [.v (.bool (Iv.ok a&&Iv.ok b))] []:=by
 refine Trip.of Tryz.func100 (by decide) (c:=_) Y Y (Nat.le_of_ble_eq_true Y) Y (AftOk.nil _)<|.seq<|.rs fun k1=>.g (fun _ τ=>⟨_,.box (.no Y) Y Y Y Y Y τ⟩)<|.g (fun _ τ=>⟨_,.box (.no Y) Y Y Y Y Y τ⟩)<|.as Y<|.z<|.seq ?_
 refine .reg (X:=Unit) (fun ζ=>.of [(4,.one (.d (.v (.bool ((Iv.ok a&&Iv.ok b))))))] []) [⟨[2],some 5,[[2]],[]⟩,⟨[5],some 6,[],[]⟩,⟨[6],some 7,[],[]⟩,⟨[7,3],some 8,[[3]],[]⟩,⟨[7,8],some 9,[],[]⟩,⟨[7,9],some 10,[],[]⟩,⟨[10],some 4,[],[]⟩] (fun k2=>?_) ?_
 ·skip
  refine .load (.no Y) Y t119 Y Y (.ptr _ _ _ _ _ Y) Y Y Y Y<|.call (.no Y) Y [] [] (c_IvOk a) Y Y Y Y Y (.dd (.dd .nil)) Y Y (fun h=>absurd Y h) (.own [6,0] .nil) (.nil) Y Y Y (by simp) Y Y Y<|.moveB (.no Y) Y Y Y Y fun b3 g1_2=>?_
  cases b3
  ·skip
   refine .off Y Y Y Y Y Y Y<|.off Y Y Y Y Y Y Y<|.pick (.no Y) Y Y Y Y Y<|.assign (.no Y) Y Y Y Y ?_
   exact .fin () (.of (.cons (svB (show (false)=((Iv.ok a&&Iv.ok b)) by first | (simp only [g1_2,Bool.true_or,Bool.false_or,Bool.true_and,Bool.false_and,Bool.not_true,Bool.not_false]; done) | (simp [g1_2]; done) | (exfalso; simp_all; done))) .nil) .nil)
  ·skip
   refine .load (.on Y Y Y Y Y) Y t119 Y Y (.ptr _ _ _ _ _ Y) Y Y Y Y<|.call (.on Y Y Y Y Y) Y [] [] (c_IvOk b) Y Y Y Y Y (.dd (.dd .nil)) Y Y (fun h=>absurd Y h) (.own [9,0] .nil) (.nil) Y Y Y (by simp) Y Y Y<|.pick (.no Y) Y Y Y Y Y<|.assign (.no Y) Y Y Y Y ?_
   exact .fin () (.of (.cons (svB (show (Iv.ok b)=((Iv.ok a&&Iv.ok b)) by first | (simp only [g1_2,Bool.true_or,Bool.false_or,Bool.true_and,Bool.false_and,Bool.not_true,Bool.not_false]; done) | (simp [g1_2]; done) | (exfalso; simp_all; done))) .nil) .nil)
 intro _
 refine .ret ?_
 exact fin0 (.inr Y) (.one (svB (show ((Iv.ok a&&Iv.ok b))=(Iv.ok a&&Iv.ok b) by rfl)) .nil) (.dd .nil) Y
theorem c_IvJoin (a:Iv) (b:Iv):Trip Tryz.prog 49 [(true,2),(true,2)] (Iv.c a++Iv.c b) [(true,2)] [.v (.int .i64 ((Iv.joinOk a b).lo)),.v (.int .i64 ((Iv.joinOk a b).hi))] []:=by
 refine Trip.of Tryz.func49 (by decide) (c:=_) Y Y (Nat.le_of_ble_eq_true Y) Y (AftOk.nil _)<|.seq<|.rs fun k1=>.g (fun _ τ=>⟨_,.box (.no Y) Y Y Y Y Y τ⟩)<|.g (fun _ τ=>⟨_,.box (.no Y) Y Y Y Y Y τ⟩)<|.g (fun _ τ=>⟨_,.alloc (.no Y) Y z119 Y Y Y τ⟩)<|.z<|.seq<|.seq ?_
 refine .rs fun k2=>.lda t119 Y (.ptr _ _ _ _ _ Y) Y<|.lda t119 Y (.ptr _ _ _ _ _ Y) Y<|.c0 (c_areIvs a b) Y (.dd (.dd (.dd (.dd .nil)))) (.own [7,0] .nil) Y<|.un Y<|.z ?_
 refine .cond (t:=!(Iv.ok a&&Iv.ok b)) Y (fun c0=>?_) (fun c0=>?_)
 ·have c0:=(nT (aF id id)) c0
  refine .seq<|.rs fun k3=>.g (fun _ τ=>⟨_,.build (.no Y) Y z119 Y p119 Y Y Y Y τ⟩)<|.g (fun _ τ=>⟨_,.store (.no Y) Y t119 Y Y Y Y Y Y Y Y Y τ⟩)<|.z<|.ret ?_
  have e4:(0)=((Iv.joinOk a b).lo):=by (rw [Iv.joinOk_no c0])
  have e5:(0)=((Iv.joinOk a b).hi):=by (rw [Iv.joinOk_no c0])
  have hc6:=eq2 (fun z1 z2=>some (k1+1+1,k3+1,O.box [.d (.v (.int .i64 (z1))),.d (.v (.int .i64 (z2)))])) e4 e5
  exact fin0 (.inr Y) (.cell (cells:=[.d (.v (.int .i64 ((Iv.joinOk a b).lo))),.d (.v (.int .i64 ((Iv.joinOk a b).hi)))]) Y hc6 t119 Y Y .nil) (.dd (.dd .nil)) Y
 ·have c0:=(nF (aT id id)) c0
  refine .skip<|.seq<|.rs fun k7=>.fp t119 t2 Y<|.ld t2 Y (.ptr _ _ _ _ _ Y) Y<|.fp t119 t2 Y<|.ld t2 Y (.ptr _ _ _ _ _ Y) Y<|.g (fun _ τ=>⟨_,.min (.no Y) Y Y Y Y (min_of _ _) Y τ⟩)<|.fp t119 t2 Y ?_
  refine .ld t2 Y (.ptr _ _ _ _ _ Y) Y<|.fp t119 t2 Y<|.ld t2 Y (.ptr _ _ _ _ _ Y) Y<|.g (fun _ τ=>⟨_,.max (.no Y) Y Y Y Y (max_of _ _) Y τ⟩)<|.g (fun _ τ=>⟨_,.build (.no Y) Y z119 Y p119 Y Y Y Y τ⟩)<|.g (fun _ τ=>⟨_,.store (.no Y) Y t119 Y Y Y Y Y Y Y Y Y τ⟩)<|.z<|.ret ?_
  have e8:(min a.lo b.lo)=((Iv.joinOk a b).lo):=by (rw [Iv.joinOk_yes c0]; rfl)
  have e9:(max a.hi b.hi)=((Iv.joinOk a b).hi):=by (rw [Iv.joinOk_yes c0]; rfl)
  have hc10:=eq2 (fun z1 z2=>some (k1+1+1,k7+1+1+1+1+1+1+1+1+1+1+1,O.box [.d (.v (.int .i64 (z1))),.d (.v (.int .i64 (z2)))])) e8 e9
  exact fin0 (.inr Y) (.cell (cells:=[.d (.v (.int .i64 ((Iv.joinOk a b).lo))),.d (.v (.int .i64 ((Iv.joinOk a b).hi)))]) Y hc10 t119 Y Y .nil) (.dd (.dd .nil)) Y
end Go.Proofs

namespace Go.Proofs
open Go Go.Proofs Go.Ev

theorem c_sIvLeq (a:Iv) (b:Iv):Trip Tryz.prog 210 [(true,2),(true,2)] (Iv.c a++Iv.c b) [(false,1)] [.v (.bool (Iv.leq a b))] []:=by
 refine Trip.of Tryz.func210 (by decide) (c:=_) Y Y (Nat.le_of_ble_eq_true Y) Y (AftOk.nil _)<|.seq<|.rs fun k1=>.g (fun _ τ=>⟨_,.box (.no Y) Y Y Y Y Y τ⟩)<|.g (fun _ τ=>⟨_,.box (.no Y) Y Y Y Y Y τ⟩)<|.as Y<|.z<|.seq ?_
 refine .reg (X:=Unit) (fun ζ=>.of [(4,.one (.d (.v (.bool ((((Iv.ok a&&Iv.ok b)&&decide (b.lo≤a.lo))&&decide (a.hi≤b.hi)))))))] []) [⟨[2],some 5,[[2]],[]⟩,⟨[5],some 6,[],[]⟩,⟨[6],some 7,[],[]⟩,⟨[7,3],some 8,[[3]],[]⟩,⟨[7,8],some 9,[],[]⟩,⟨[7,9],some 10,[],[]⟩,⟨[10],some 11,[],[]⟩,⟨[11,3],some 12,[],[]⟩,⟨[11,12],some 13,[[3]],[]⟩,⟨[11,2],some 14,[],[]⟩,⟨[11,14],some 15,[[2]],[]⟩,⟨[11,13,15],some 16,[],[]⟩,⟨[11,16],some 17,[],[]⟩,⟨[17],some 18,[],[]⟩,⟨[18,2],some 19,[],[]⟩,⟨[18,19],some 20,[[2]],[]⟩,⟨[18,3],some 21,[],[]⟩,⟨[18,21],some 22,[[3]],[]⟩,⟨[18,20,22],some 23,[],[]⟩,⟨[18,23],some 24,[],[]⟩,⟨[24],some 4,[],[]⟩] (fun k2=>?_) ?_
 ·skip
  refine .load (.no Y) Y t119 Y Y (.ptr _ _ _ _ _ Y) Y Y Y Y<|.call (.no Y) Y [] [] (c_sIvOk a) Y Y Y Y Y (.dd (.dd .nil)) Y Y (fun h=>absurd Y h) (.own [6,0] .nil) (.nil) Y Y Y (by simp) Y Y Y<|.moveB (.no Y) Y Y Y Y fun b3 g1_2=>?_
  cases b3
  ·skip
   refine .off Y Y Y Y Y Y Y<|.off Y Y Y Y Y Y Y<|.pick (.no Y) Y Y Y Y Y<|.move (.no Y) Y Y Y Y<|.off Y Y Y Y Y Y Y<|.off Y Y Y Y Y Y Y<|.off Y Y Y Y Y Y Y<|.off Y Y Y Y Y Y Y<|.off Y Y Y Y Y Y Y ?_
   refine .pick (.no Y) Y Y Y Y Y<|.move (.no Y) Y Y Y Y<|.off Y Y Y Y Y Y Y<|.off Y Y Y Y Y Y Y<|.off Y Y Y Y Y Y Y<|.off Y Y Y Y Y Y Y<|.off Y Y Y Y Y Y Y<|.pick (.no Y) Y Y Y Y Y<|.assign (.no Y) Y Y Y Y ?_
   exact .fin () (.of (.cons (svB (show (false)=((((Iv.ok a&&Iv.ok b)&&decide (b.lo≤a.lo))&&decide (a.hi≤b.hi))) by first | (simp only [g1_2,Bool.true_or,Bool.false_or,Bool.true_and,Bool.false_and,Bool.not_true,Bool.not_false]; done) | (simp [g1_2]; done) | (exfalso; simp_all; done))) .nil) .nil)
  ·skip
   refine .load (.on Y Y Y Y Y) Y t119 Y Y (.ptr _ _ _ _ _ Y) Y Y Y Y<|.call (.on Y Y Y Y Y) Y [] [] (c_sIvOk b) Y Y Y Y Y (.dd (.dd .nil)) Y Y (fun h=>absurd Y h) (.own [9,0] .nil) (.nil) Y Y Y (by simp) Y Y Y<|.pick (.no Y) Y Y Y Y Y<|.moveB (.no Y) Y Y Y Y fun b4 g1_6=>?_
   cases b4
   ·skip
    refine .off Y Y Y Y Y Y Y<|.off Y Y Y Y Y Y Y<|.off Y Y Y Y Y Y Y<|.off Y Y Y Y Y Y Y<|.off Y Y Y Y Y Y Y<|.pick (.no Y) Y Y Y Y Y<|.move (.no Y) Y Y Y Y<|.off Y Y Y Y Y Y Y<|.off Y Y Y Y Y Y Y ?_
    refine .off Y Y Y Y Y Y Y<|.off Y Y Y Y Y Y Y<|.off Y Y Y Y Y Y Y<|.pick (.no Y) Y Y Y Y Y<|.assign (.no Y) Y Y Y Y ?_
    exact .fin () (.of (.cons (svB (show (false)=((((Iv.ok a&&Iv.ok b)&&decide (b.lo≤a.lo))&&decide (a.hi≤b.hi))) by first | (simp only [g1_2,g1_6,Bool.true_or,Bool.false_or,Bool.true_and,Bool.false_and,Bool.not_true,Bool.not_false]; done) | (simp [g1_2,g1_6]; done) | (exfalso; simp_all; done))) .nil) .nil)
   ·skip
    refine .fieldAddrP (.on Y Y Y Y Y) Y t119 Y Y t2 Y Y Y Y<|.load (.on Y Y Y Y Y) Y t2 Y Y (.ptr _ _ _ _ _ Y) Y Y Y Y<|.fieldAddrP (.on Y Y Y Y Y) Y t119 Y Y t2 Y Y Y Y<|.load (.on Y Y Y Y Y) Y t2 Y Y (.ptr _ _ _ _ _ Y) Y Y Y Y<|.bin (.on Y Y Y Y Y) Y Y Y Y Y Y<|.pick (.no Y) Y Y Y Y Y<|.moveB (.no Y) Y Y Y Y fun b5 g1_13=>?_
    cases b5
    ·skip
     refine .off Y Y Y Y Y Y Y<|.off Y Y Y Y Y Y Y<|.off Y Y Y Y Y Y Y<|.off Y Y Y Y Y Y Y<|.off Y Y Y Y Y Y Y<|.pick (.no Y) Y Y Y Y Y<|.assign (.no Y) Y Y Y Y ?_
     exact .fin () (.of (.cons (svB (show (false)=((((Iv.ok a&&Iv.ok b)&&decide (b.lo≤a.lo))&&decide (a.hi≤b.hi))) by first | (simp only [g1_2,g1_6,g1_13,Bool.true_or,Bool.false_or,Bool.true_and,Bool.false_and,Bool.not_true,Bool.not_false]; done) | (simp [g1_2,g1_6,g1_13]; done) | (exfalso; simp_all; done))) .nil) .nil)
    ·skip
     refine .fieldAddrP (.on Y Y Y Y Y) Y t119 Y Y t2 Y Y Y Y<|.load (.on Y Y Y Y Y) Y t2 Y Y (.ptr _ _ _ _ _ Y) Y Y Y Y<|.fieldAddrP (.on Y Y Y Y Y) Y t119 Y Y t2 Y Y Y Y<|.load (.on Y Y Y Y Y) Y t2 Y Y (.ptr _ _ _ _ _ Y) Y Y Y Y<|.bin (.on Y Y Y Y Y) Y Y Y Y Y Y<|.pick (.no Y) Y Y Y Y Y<|.assign (.no Y) Y Y Y Y ?_
     exact .fin () (.of (.cons (svB (show (decide (a.hi≤b.hi))=((((Iv.ok a&&Iv.ok b)&&decide (b.lo≤a.lo))&&decide (a.hi≤b.hi))) by first | (simp only [g1_2,g1_6,g1_13,Bool.true_or,Bool.false_or,Bool.true_and,Bool.false_and,Bool.not_true,Bool.not_false]; done) | (simp [g1_2,g1_6,g1_13]; done) | (exfalso; simp_all; done))) .nil) .nil)
 intro _
 refine .ret ?_
 exact fin0 (.inr Y) (.one (svB (show ((((Iv.ok a&&Iv.ok b)&&decide (b.lo≤a.lo))&&decide (a.hi≤b.hi)))=(Iv.leq a b) by rfl)) .nil) (.dd .nil) Y
theorem c_IvLeq (a:Iv) (b:Iv):Trip Tryz.prog 209 [(true,2),(true,2)] (Iv.c a++Iv.c b) [(false,1)] [.v (.bool (Iv.leq a b))] []:=by
 refine Trip.of Tryz.func209 (by decide) (c:=_) Y Y (Nat.le_of_ble_eq_true Y) Y (AftOk.nil _)<|.seq<|.rs fun k1=>.g (fun _ τ=>⟨_,.box (.no Y) Y Y Y Y Y τ⟩)<|.g (fun _ τ=>⟨_,.box (.no Y) Y Y Y Y Y τ⟩)<|.as Y<|.z<|.seq ?_
 refine .reg (X:=Unit) (fun ζ=>.of [(4,.one (.d (.v (.bool (((Iv.ok a&&Iv.ok b&&decide (b.lo≤a.lo))&&decide (a.hi≤b.hi)))))))] []) [⟨[2],some 5,[[2]],[]⟩,⟨[3],some 6,[[3]],[]⟩,⟨[5,6],some 7,[],[]⟩,⟨[7],some 8,[],[]⟩,⟨[8,3],some 9,[],[]⟩,⟨[8,9],some 10,[[3]],[]⟩,⟨[8,2],some 11,[],[]⟩,⟨[8,11],some 12,[[2]],[]⟩,⟨[8,10,12],some 13,[],[]⟩,⟨[8,13],some 14,[],[]⟩,⟨[14],some 15,[],[]⟩,⟨[15,2],some 16,[],[]⟩,⟨[15,16],some 17,[[2]],[]⟩,⟨[15,3],some 18,[],[]⟩,⟨[15,18],some 19,[[3]],[]⟩,⟨[15,17,19],some 20,[],[]⟩,⟨[15,20],some 21,[],[]⟩,⟨[21],some 4,[],[]⟩] (fun k2=>?_) ?_
 ·skip
  refine .load (.no Y) Y t119 Y Y (.ptr _ _ _ _ _ Y) Y Y Y Y<|.load (.no Y) Y t119 Y Y (.ptr _ _ _ _ _ Y) Y Y Y Y<|.call (.no Y) Y [] [] (c_areIvs a b) Y Y Y Y Y (.dd (.dd (.dd (.dd .nil)))) Y Y (fun h=>absurd Y h) (.own [7,0] .nil) (.nil) Y Y Y (by simp) Y Y Y<|.moveB (.no Y) Y Y Y Y fun b3 g1_3=>?_
  cases b3
  ·skip
   refine .off Y Y Y Y Y Y Y<|.off Y Y Y Y Y Y Y<|.off Y Y Y Y Y Y Y<|.off Y Y Y Y Y Y Y<|.off Y Y Y Y Y Y Y<|.pick (.no Y) Y Y Y Y Y<|.move (.no Y) Y Y Y Y<|.off Y Y Y Y Y Y Y<|.off Y Y Y Y Y Y Y ?_
   refine .off Y Y Y Y Y Y Y<|.off Y Y Y Y Y Y Y<|.off Y Y Y Y Y Y Y<|.pick (.no Y) Y Y Y Y Y<|.assign (.no Y) Y Y Y Y ?_
   exact .fin () (.of (.cons (svB (show (false)=(((Iv.ok a&&Iv.ok b&&decide (b.lo≤a.lo))&&decide (a.hi≤b.hi))) by first | (simp only [g1_3,Bool.true_or,Bool.false_or,Bool.true_and,Bool.false_and,Bool.not_true,Bool.not_false]; done) | (simp [g1_3]; done) | (exfalso; simp_all; done))) .nil) .nil)
  ·skip
   refine .fieldAddrP (.on Y Y Y Y Y) Y t119 Y Y t2 Y Y Y Y<|.load (.on Y Y Y Y Y) Y t2 Y Y (.ptr _ _ _ _ _ Y) Y Y Y Y<|.fieldAddrP (.on Y Y Y Y Y) Y t119 Y Y t2 Y Y Y Y<|.load (.on Y Y Y Y Y) Y t2 Y Y (.ptr _ _ _ _ _ Y) Y Y Y Y<|.bin (.on Y Y Y Y Y) Y Y Y Y Y Y<|.pick (.no Y) Y Y Y Y Y<|.moveB (.no Y) Y Y Y Y fun b4 g1_10=>?_
   cases b4
   ·skip
    refine .off Y Y Y Y Y Y Y<|.off Y Y Y Y Y Y Y<|.off Y Y Y Y Y Y Y<|.off Y Y Y Y Y Y Y<|.off Y Y Y Y Y Y Y<|.pick (.no Y) Y Y Y Y Y<|.assign (.no Y) Y Y Y Y ?_
    exact .fin () (.of (.cons (svB (show (false)=(((Iv.ok a&&Iv.ok b&&decide (b.lo≤a.lo))&&decide (a.hi≤b.hi))) by first | (simp only [g1_3,g1_10,Bool.true_or,Bool.false_or,Bool.true_and,Bool.false_and,Bool.not_true,Bool.not_false]; done) | (simp [g1_3,g1_10]; done) | (exfalso; simp_all; done))) .nil) .nil)
   ·skip
    refine .fieldAddrP (.on Y Y Y Y Y) Y t119 Y Y t2 Y Y Y Y<|.load (.on Y Y Y Y Y) Y t2 Y Y (.ptr _ _ _ _ _ Y) Y Y Y Y<|.fieldAddrP (.on Y Y Y Y Y) Y t119 Y Y t2 Y Y Y Y<|.load (.on Y Y Y Y Y) Y t2 Y Y (.ptr _ _ _ _ _ Y) Y Y Y Y<|.bin (.on Y Y Y Y Y) Y Y Y Y Y Y<|.pick (.no Y) Y Y Y Y Y<|.assign (.no Y) Y Y Y Y ?_
    exact .fin () (.of (.cons (svB (show (decide (a.hi≤b.hi))=(((Iv.ok a&&Iv.ok b&&decide (b.lo≤a.lo))&&decide (a.hi≤b.hi))) by first | (simp only [g1_3,g1_10,Bool.true_or,Bool.false_or,Bool.true_and,Bool.false_and,Bool.not_true,Bool.not_false]; done) | (simp [g1_3,g1_10]; done) | (exfalso; simp_all; done))) .nil) .nil)
 intro _
 refine .ret ?_
 exact fin0 (.inr Y) (.one (svB (show (((Iv.ok a&&Iv.ok b&&decide (b.lo≤a.lo))&&decide (a.hi≤b.hi)))=(Iv.leq a b) by rfl)) .nil) (.dd .nil) Y
end Go.Proofs

namespace Go.Proofs
open Go Go.Proofs Go.Ev

def i64c (x:Int):List D:=[.v (.int .i64 x)]
theorem i64c_e (x:Int):(i64c x).map D.erase=i64c x:=by simp [i64c,D.erase_v]
theorem i64c_o (x:Int):∀ d∈i64c x,Owned d:=by simp [i64c,Owned.v]
def i41:TI:=⟨.sl 2,1,24,[.slice none 0 0]⟩
theorem t41:TyOk Tryz.prog 41 i41:=⟨Tryz.underlying41,by kernel_rfl⟩
theorem z41:ZOk Tryz.prog 41 i41:=⟨t41,rfl⟩
theorem c_sIvWiden (a:Iv) (b:Iv) (l:List Int):Trip Tryz.prog 213 [(true,2),(true,2),(false,1)] (Iv.c a++Iv.c b++[.sl false 2 1 (List.map i64c (l))]) [(true,2)] [.v (.int .i64 ((Iv.widenOk l a b).lo)),.v (.int .i64 ((Iv.widenOk l a b).hi))] []:=by
 refine Trip.of Tryz.func213 (by decide) (c:=_) Y Y (Nat.le_of_ble_eq_true Y) Y (AftOk.nil _)<|.sl (t:=2) Y fun hs1l=>.seq<|.rs fun k2=>.g (fun _ τ=>⟨_,.box (.no Y) Y Y Y Y Y τ⟩)<|.g (fun _ τ=>⟨_,.box (.no Y) Y Y Y Y Y τ⟩)<|.g (fun _ τ=>⟨_,.alloc (.no Y) Y z119 Y Y Y τ⟩)<|.z<|.seq ?_
 refine .seq ?_
 refine .reg (X:=Unit) (fun ζ=>.of [(2,.one (.d (.sl false 2 1 (List.map i64c (l))))),(3,.one (.ptr [3] (k2) 0)),(4,.one (.ptr [4] (k2+1) 0)),(6,.one (.ptr [6] (k2+1+1) 0)),(22,.one (.d (.v (.bool (((!(Iv.ok a)||!(Iv.ok b))||decide ((l.length:Int) > 100)))))))] [([3],(k2,k2,.box [.d (.v (.int .i64 (a.lo))),.d (.v (.int .i64 (a.hi)))])),([4],(k2+1,k2+1,.box [.d (.v (.int .i64 (b.lo))),.d (.v (.int .i64 (b.hi)))])),([6],(k2+1+1,k2+1+1,.box [.d (.v (.int .i64 (0))),.d (.v (.int .i64 (0)))]))]) [⟨[3],some 10,[[3]],[]⟩,⟨[10],some 11,[],[]⟩,⟨[11],some 12,[],[]⟩,⟨[12],some 13,[],[]⟩,⟨[13,4],some 14,[[4]],[]⟩,⟨[13,14],some 15,[],[]⟩,⟨[13,15],some 16,[],[]⟩,⟨[13,16],some 17,[],[]⟩,⟨[17],some 18,[],[]⟩,⟨[18,2],some 19,[],[]⟩,⟨[18,19],some 20,[],[]⟩,⟨[18,20],some 21,[],[]⟩,⟨[18,21],some 22,[],[]⟩] (fun k3=>?_) ?_
 ·skip
  refine .load (.no Y) Y t119 Y Y (.ptr _ _ _ _ _ Y) Y Y Y Y<|.call (.no Y) Y [] [] (c_sIvOk a) Y Y Y Y Y (.dd (.dd .nil)) Y Y (fun h=>absurd Y h) (.own [11,0] .nil) (.nil) Y Y Y (by simp) Y Y Y<|.un (.no Y) Y Y Y Y Y<|.moveB (.no Y) Y Y Y Y fun b4 g1_3=>?_
  cases b4
  ·skip
   refine .load (.on Y Y Y Y Y) Y t119 Y Y (.ptr _ _ _ _ _ Y) Y Y Y Y<|.call (.on Y Y Y Y Y) Y [] [] (c_sIvOk b) Y Y Y Y Y (.dd (.dd .nil)) Y Y (fun h=>absurd Y h) (.own [15,0] .nil) (.nil) Y Y Y (by simp) Y Y Y<|.un (.on Y Y Y Y Y) Y Y Y Y Y<|.pick (.no Y) Y Y Y Y Y<|.moveB (.no Y) Y Y Y Y fun b5 g1_8=>?_
   cases b5
   ·skip
    refine .move (.on Y Y Y Y Y) Y Y Y Y<|.len (.on Y Y Y Y Y) Y (z:=(l.length:Int)) t41 Y Y Y (.d _ _) (map_len _ _) Y<|.bin (.on Y Y Y Y Y) Y Y Y Y Y Y<|.pick (.no Y) Y Y Y Y Y ?_
    exact .fin () (.of (.cons Y (.cons Y (.cons Y (.cons Y (.cons (svB (show (decide ((l.length:Int) > 100))=(((!(Iv.ok a)||!(Iv.ok b))||decide ((l.length:Int) > 100))) by first | (simp only [g1_3,g1_8,Bool.true_or,Bool.false_or,Bool.true_and,Bool.false_and,Bool.not_true,Bool.not_false]; done) | (simp [g1_3,g1_8]; done) | (exfalso; simp_all; done))) .nil))))) (.r Y))
   ·skip
    refine .off Y Y Y Y Y Y Y<|.off Y Y Y Y Y Y Y<|.off Y Y Y Y Y Y Y<|.pick (.no Y) Y Y Y Y Y ?_
    exact .fin () (.of (.cons Y (.cons Y (.cons Y (.cons Y (.cons (svB (show (true)=(((!(Iv.ok a)||!(Iv.ok b))||decide ((l.length:Int) > 100))) by first | (simp only [g1_3,g1_8,Bool.true_or,Bool.false_or,Bool.true_and,Bool.false_and,Bool.not_true,Bool.not_false]; done) | (simp [g1_3,g1_8]; done) | (exfalso; simp_all; done))) .nil))))) (.r Y))
  ·skip
   refine .off Y Y Y Y Y Y Y<|.off Y Y Y Y Y Y Y<|.off Y Y Y Y Y Y Y<|.pick (.no Y) Y Y Y Y Y<|.move (.no Y) Y Y Y Y<|.off Y Y Y Y Y Y Y<|.off Y Y Y Y Y Y Y<|.off Y Y Y Y Y Y Y<|.pick (.no Y) Y Y Y Y Y ?_
   exact .fin () (.of (.cons Y (.cons Y (.cons Y (.cons Y (.cons (svB (show (true)=(((!(Iv.ok a)||!(Iv.ok b))||decide ((l.length:Int) > 100))) by first | (simp only [g1_3,Bool.true_or,Bool.false_or,Bool.true_and,Bool.false_and,Bool.not_true,Bool.not_false]; done) | (simp [g1_3]; done) | (exfalso; simp_all; done))) .nil))))) (.r Y))
 intro _
 refine .cond (t:=((!(Iv.ok a)||!(Iv.ok b))||decide ((l.length:Int) > 100))) Y (fun c0=>?_) (fun c0=>?_)
 ·have c0:=(oT (oT (nT id) (nT id)) dT) c0
  refine .seq<|.rs fun k6=>.g (fun _ τ=>⟨_,.build (.no Y) Y z119 Y p119 Y Y Y Y τ⟩)<|.g (fun _ τ=>⟨_,.store (.no Y) Y t119 Y Y Y Y Y Y Y Y Y τ⟩)<|.z<|.ret ?_
  have e7:(0)=((Iv.widenOk l a b).lo):=by (rw [Iv.widenOk_no c0])
  have e8:(0)=((Iv.widenOk l a b).hi):=by (rw [Iv.widenOk_no c0])
  have hc9:=eq2 (fun z1 z2=>some (k2+1+1,k6+1,O.box [.d (.v (.int .i64 (z1))),.d (.v (.int .i64 (z2)))])) e7 e8
  exact fin0 (.inr Y) (.cell (cells:=[.d (.v (.int .i64 ((Iv.widenOk l a b).lo))),.d (.v (.int .i64 ((Iv.widenOk l a b).hi)))]) Y hc9 t119 Y Y .nil) (.dd (.dd .nil)) Y
 ·have c0:=(oF (oF (nF id) (nF id)) dF) c0
  refine .skip<|.seq<|.rs fun k10=>.lda t119 Y (.ptr _ _ _ _ _ Y) Y<|.g (fun _ τ=>⟨_,.alloc (.no Y) Y z119 Y Y Y τ⟩)<|.g (fun _ τ=>⟨_,.store (.no Y) Y t119 Y Y Y Y Y Y Y Y Y τ⟩)<|.z<|.seq<|.seq ?_
  refine .rs fun k11=>.fp t119 t2 Y<|.ld t2 Y (.ptr _ _ _ _ _ Y) Y<|.fp t119 t2 Y<|.ld t2 Y (.ptr _ _ _ _ _ Y) Y<|.bi Y<|.z ?_
  refine .cond (t:=decide (b.lo < a.lo)) Y (fun c1=>?_) (fun c1=>?_)
  ·have c1:=of_decide_eq_true c1
   refine .seq<|.rs fun k12=>.fp t119 t2 Y<|.g (fun _ τ=>⟨_,.store (.no Y) Y t2 Y Y Y Y Y Y Y Y Y τ⟩)<|.z<|.seq<|.rs fun k13=>.as Y<|.z ?_
   refine .block ?_
   refine .loop (X:=Nat × Nat) (fun ζ=>.of [(2,.one (.d (.sl false 2 1 (List.map i64c (l))))),(3,.one (.ptr [3] (k2) 0)),(4,.one (.ptr [4] (k2+1) 0)),(6,.one (.ptr [6] (k2+1+1) 0)),(7,.one (.ptr [7] (k10+1) 0)),(8,.one (.d (.v (.int .i64 ((ζ.1:Int))))))] [([3],(k2,k2,.box [.d (.v (.int .i64 (a.lo))),.d (.v (.int .i64 (a.hi)))])),([4],(k2+1,k2+1,.box [.d (.v (.int .i64 (b.lo))),.d (.v (.int .i64 (b.hi)))])),([6],(k2+1+1,k2+1+1,.box [.d (.v (.int .i64 (0))),.d (.v (.int .i64 (0)))])),([7],(k10+1,ζ.2,.box [.d (.v (.int .i64 (widenLo b.lo (l.take ζ.1) (-9223372036854775808)))),.d (.v (.int .i64 (a.hi)))]))]) (fun ζ=>ζ.1≤l.length) (fun ζ=>l.length - ζ.1) ?_ ?_
   ·skip
    exact .here (0,(k12+1)) (.of (.cons Y (.cons Y (.cons Y (.cons Y (.cons Y (.cons (svI (show (0)=((0:Int)) by first | rfl | omega | exact wrap_le (by omega) (by omega) | (rw [wrap_le (by omega) (by omega)]; omega))) .nil)))))) (.cons Y (.cons Y (.cons Y (.cons (eq1 (fun z1=>some (k10+1,k12+1,O.box [.d (.v (.int .i64 (z1))),.d (.v (.int .i64 (a.hi)))])) (show (-9223372036854775808)=(widenLo b.lo (l.take 0) (-9223372036854775808)) by first | rfl | (exact widenLo_yes (by omega) c3) | (exact widenLo_no (by omega) c3) | (exact widenHi_yes (by omega) c6) | (exact widenHi_no (by omega) c6))) .nil))))) (show 0≤l.length by omega)
   ·rintro ⟨j,q14⟩ hI
    have hI:j≤l.length:=hI
    have hl9:l.length≤100:=by omega
    dsimp only
    refine .seq<|.seq<|.rs fun k15=>.mv Y<|.mv Y<|.g (fun _ τ=>⟨_,.len (.no Y) Y (z:=(l.length:Int)) t41 Y Y Y (.d _ _) (map_len _ _) Y τ⟩)<|.bi Y<|.z ?_
    refine .cond (t:=decide ((j:Int) < (l.length:Int))) Y (fun c2=>?_) (fun c2=>?_)
    ·have c2:=of_decide_eq_true c2
     refine .skip<|.seq<|.block<|.seq ?_
     refine .regD (X:=Unit) (by kernel_rfl) (fun ζ=>.of [(2,.one (.d (.sl false 2 1 (List.map i64c (l))))),(3,.one (.ptr [3] (k2) 0)),(4,.one (.ptr [4] (k2+1) 0)),(6,.one (.ptr [6] (k2+1+1) 0)),(7,.one (.ptr [7] (k10+1) 0)),(8,.one (.d (.v (.int .i64 ((j:Int)))))),(43,.one (.d (.v (.bool (decide ((l.getD j default)≤b.lo))))))] [([3],(k2,k2,.box [.d (.v (.int .i64 (a.lo))),.d (.v (.int .i64 (a.hi)))])),([4],(k2+1,k2+1,.box [.d (.v (.int .i64 (b.lo))),.d (.v (.int .i64 (b.hi)))])),([6],(k2+1+1,k2+1+1,.box [.d (.v (.int .i64 (0))),.d (.v (.int .i64 (0)))])),([7],(k10+1,q14,.box [.d (.v (.int .i64 (widenLo b.lo (l.take j) (-9223372036854775808)))),.d (.v (.int .i64 (a.hi)))]))]) [⟨[2],some 37,[],[]⟩,⟨[8],some 38,[],[]⟩,⟨[37,38],some 39,[],[]⟩,⟨[39],some 40,[],[]⟩,⟨[4],some 41,[],[]⟩,⟨[41],some 42,[[4]],[]⟩,⟨[40,42],some 43,[],[]⟩] (by kernel_rfl) (fun k16=>?_) ?_
     ·skip
      refine .move (.no Y) Y Y Y Y<|.move (.no Y) Y Y Y Y<|.indexAddr (.no Y) Y (j) t41 Y t2 Y Y Y (.d _ _) Y Y Y (map_get (by omega)) Y Y<|.load (.no Y) Y t2 Y Y (.d _) Y Y Y Y<|.fieldAddrP (.no Y) Y t119 Y Y t2 Y Y Y Y<|.load (.no Y) Y t2 Y Y (.ptr _ _ _ _ _ Y) Y Y Y Y<|.bin (.no Y) Y Y Y Y Y Y ?_
      exact .fin () (.of (.r Y) (.r Y))
     intro _
     refine .cond (t:=decide ((l.getD j default)≤b.lo)) Y (fun c3=>?_) (fun c3=>?_)
     ·have c3:=of_decide_eq_true c3
      refine .regD (X:=Nat) (by kernel_rfl) (fun ζ=>.of [(2,.one (.d (.sl false 2 1 (List.map i64c (l))))),(3,.one (.ptr [3] (k2) 0)),(4,.one (.ptr [4] (k2+1) 0)),(6,.one (.ptr [6] (k2+1+1) 0)),(7,.one (.ptr [7] (k10+1) 0)),(8,.one (.d (.v (.int .i64 ((j:Int))))))] [([3],(k2,k2,.box [.d (.v (.int .i64 (a.lo))),.d (.v (.int .i64 (a.hi)))])),([4],(k2+1,k2+1,.box [.d (.v (.int .i64 (b.lo))),.d (.v (.int .i64 (b.hi)))])),([6],(k2+1+1,k2+1+1,.box [.d (.v (.int .i64 (0))),.d (.v (.int .i64 (0)))])),([7],(k10+1,ζ,.box [.d (.v (.int .i64 (max (widenLo b.lo (l.take j) (-9223372036854775808)) (l.getD j default)))),.d (.v (.int .i64 (a.hi)))]))]) [⟨[7],some 44,[],[]⟩,⟨[44],some 45,[[7]],[]⟩,⟨[2],some 46,[],[]⟩,⟨[8],some 47,[],[]⟩,⟨[46,47],some 48,[],[]⟩,⟨[48],some 49,[],[]⟩,⟨[45,49],some 50,[],[]⟩,⟨[7],some 51,[],[]⟩,⟨[51,50],none,[[7]],[[7]]⟩] (by kernel_rfl) (fun k17=>?_) ?_
      ·skip
       refine .fieldAddrP (.no Y) Y t119 Y Y t2 Y Y Y Y<|.load (.no Y) Y t2 Y Y (.ptr _ _ _ _ _ Y) Y Y Y Y<|.move (.no Y) Y Y Y Y<|.move (.no Y) Y Y Y Y<|.indexAddr (.no Y) Y (j) t41 Y t2 Y Y Y (.d _ _) Y Y Y (map_get (by omega)) Y Y<|.load (.no Y) Y t2 Y Y (.d _) Y Y Y Y<|.max (.no Y) Y Y Y Y (max_of _ _) Y<|.fieldAddrP (.no Y) Y t119 Y Y t2 Y Y Y Y<|.store (.no Y) Y t2 Y Y Y Y Y Y Y Y Y ?_
       exact .fin (k17+1+1+1+1+1+1+1+1) (.of (.r Y) (.r Y))
      intro g18
      refine .rs fun k19=>.mv Y<|.bi Y<|.as Y<|.z ?_
      exact .here ((j+1),g18) (.of (.cons Y (.cons Y (.cons Y (.cons Y (.cons Y (.cons (svI (show (IntKind.wrap .i64 ((j:Int)+1))=(((j+1):Int)) by first | rfl | omega | exact wrap_le (by omega) (by omega) | (rw [wrap_le (by omega) (by omega)]; omega))) .nil)))))) (.cons Y (.cons Y (.cons Y (.cons (eq1 (fun z1=>some (k10+1,g18,O.box [.d (.v (.int .i64 (z1))),.d (.v (.int .i64 (a.hi)))])) (show (max (widenLo b.lo (l.take j) (-9223372036854775808)) (l.getD j default))=(widenLo b.lo (l.take (j+1)) (-9223372036854775808)) by first | rfl | (exact widenLo_yes (by omega) c3) | (exact widenLo_no (by omega) c3) | (exact widenHi_yes (by omega) c6) | (exact widenHi_no (by omega) c6))) .nil))))) ⟨(show (j+1)≤l.length by omega),(show l.length - (j+1) < l.length - j by omega)⟩
     ·have c3:=of_decide_eq_false c3
      refine .skip<|.rs fun k20=>.mv Y<|.bi Y<|.as Y<|.z ?_
      exact .here ((j+1),q14) (.of (.cons Y (.cons Y (.cons Y (.cons Y (.cons Y (.cons (svI (show (IntKind.wrap .i64 ((j:Int)+1))=(((j+1):Int)) by first | rfl | omega | exact wrap_le (by omega) (by omega) | (rw [wrap_le (by omega) (by omega)]; omega))) .nil)))))) (.cons Y (.cons Y (.cons Y (.cons (eq1 (fun z1=>some (k10+1,q14,O.box [.d (.v (.int .i64 (z1))),.d (.v (.int .i64 (a.hi)))])) (show (widenLo b.lo (l.take j) (-9223372036854775808))=(widenLo b.lo (l.take (j+1)) (-9223372036854775808)) by first | rfl | (exact widenLo_yes (by omega) c3) | (exact widenLo_no (by omega) c3) | (exact widenHi_yes (by omega) c6) | (exact widenHi_no (by omega) c6))) .nil))))) ⟨(show (j+1)≤l.length by omega),(show l.length - (j+1) < l.length - j by omega)⟩
    ·have c2:=of_decide_eq_false c2
     refine .exit<|.seq<|.seq<|.rs fun k21=>.fp t119 t2 Y<|.ld t2 Y (.ptr _ _ _ _ _ Y) Y<|.fp t119 t2 Y<|.ld t2 Y (.ptr _ _ _ _ _ Y) Y<|.bi Y ?_
     refine .z ?_
     refine .cond (t:=decide (b.hi > a.hi)) Y (fun c4=>?_) (fun c4=>?_)
     ·have c4:=of_decide_eq_true c4
      refine .seq<|.rs fun k22=>.fp t119 t2 Y<|.g (fun _ τ=>⟨_,.store (.no Y) Y t2 Y Y Y Y Y Y Y Y Y τ⟩)<|.z<|.seq<|.rs fun k23=>.as Y<|.z ?_
      refine .block ?_
      refine .loop (X:=Nat × Nat) (fun ζ=>.of [(2,.one (.d (.sl false 2 1 (List.map i64c (l))))),(4,.one (.ptr [4] (k2+1) 0)),(6,.one (.ptr [6] (k2+1+1) 0)),(7,.one (.ptr [7] (k10+1) 0)),(9,.one (.d (.v (.int .i64 ((ζ.1:Int))))))] [([4],(k2+1,k2+1,.box [.d (.v (.int .i64 (b.lo))),.d (.v (.int .i64 (b.hi)))])),([6],(k2+1+1,k2+1+1,.box [.d (.v (.int .i64 (0))),.d (.v (.int .i64 (0)))])),([7],(k10+1,ζ.2,.box [.d (.v (.int .i64 (widenLo b.lo (l.take j) (-9223372036854775808)))),.d (.v (.int .i64 (widenHi b.hi (l.take ζ.1) 9223372036854775807)))]))]) (fun ζ=>ζ.1≤l.length) (fun ζ=>l.length - ζ.1) ?_ ?_
      ·skip
       exact .here (0,(k22+1)) (.of (.cons Y (.cons Y (.cons Y (.cons Y (.cons (svI (show (0)=((0:Int)) by first | rfl | omega | exact wrap_le (by omega) (by omega) | (rw [wrap_le (by omega) (by omega)]; omega))) .nil))))) (.cons Y (.cons Y (.cons (eq1 (fun z1=>some (k10+1,k22+1,O.box [.d (.v (.int .i64 (widenLo b.lo (l.take j) (-9223372036854775808)))),.d (.v (.int .i64 (z1)))])) (show (9223372036854775807)=(widenHi b.hi (l.take 0) 9223372036854775807) by first | rfl | (exact widenLo_yes (by omega) c3) | (exact widenLo_no (by omega) c3) | (exact widenHi_yes (by omega) c6) | (exact widenHi_no (by omega) c6))) .nil)))) (show 0≤l.length by omega)
      ·rintro ⟨i,q24⟩ hI
       have hI:i≤l.length:=hI
       have hl9:l.length≤100:=by omega
       have hj9:=‹j≤l.length›
       dsimp only
       refine .seq<|.seq<|.rs fun k25=>.mv Y<|.mv Y<|.g (fun _ τ=>⟨_,.len (.no Y) Y (z:=(l.length:Int)) t41 Y Y Y (.d _ _) (map_len _ _) Y τ⟩)<|.bi Y<|.z ?_
       refine .cond (t:=decide ((i:Int) < (l.length:Int))) Y (fun c5=>?_) (fun c5=>?_)
       ·have c5:=of_decide_eq_true c5
        refine .skip<|.seq<|.block<|.seq ?_
        refine .regD (X:=Unit) (by kernel_rfl) (fun ζ=>.of [(2,.one (.d (.sl false 2 1 (List.map i64c (l))))),(4,.one (.ptr [4] (k2+1) 0)),(6,.one (.ptr [6] (k2+1+1) 0)),(7,.one (.ptr [7] (k10+1) 0)),(9,.one (.d (.v (.int .i64 ((i:Int)))))),(70,.one (.d (.v (.bool (decide ((l.getD i default)≥b.hi))))))] [([4],(k2+1,k2+1,.box [.d (.v (.int .i64 (b.lo))),.d (.v (.int .i64 (b.hi)))])),([6],(k2+1+1,k2+1+1,.box [.d (.v (.int .i64 (0))),.d (.v (.int .i64 (0)))])),([7],(k10+1,q24,.box [.d (.v (.int .i64 (widenLo b.lo (l.take j) (-9223372036854775808)))),.d (.v (.int .i64 (widenHi b.hi (l.take i) 9223372036854775807)))]))]) [⟨[2],some 64,[],[]⟩,⟨[9],some 65,[],[]⟩,⟨[64,65],some 66,[],[]⟩,⟨[66],some 67,[],[]⟩,⟨[4],some 68,[],[]⟩,⟨[68],some 69,[[4]],[]⟩,⟨[67,69],some 70,[],[]⟩] (by kernel_rfl) (fun k26=>?_) ?_
        ·skip
         refine .move (.no Y) Y Y Y Y<|.move (.no Y) Y Y Y Y<|.indexAddr (.no Y) Y (i) t41 Y t2 Y Y Y (.d _ _) Y Y Y (map_get (by omega)) Y Y<|.load (.no Y) Y t2 Y Y (.d _) Y Y Y Y<|.fieldAddrP (.no Y) Y t119 Y Y t2 Y Y Y Y<|.load (.no Y) Y t2 Y Y (.ptr _ _ _ _ _ Y) Y Y Y Y<|.bin (.no Y) Y Y Y Y Y Y ?_
         exact .fin () (.of (.r Y) (.r Y))
        intro _
        refine .cond (t:=decide ((l.getD i default)≥b.hi)) Y (fun c6=>?_) (fun c6=>?_)
        ·have c6:=of_decide_eq_true c6
         refine .regD (X:=Nat) (by kernel_rfl) (fun ζ=>.of [(2,.one (.d (.sl false 2 1 (List.map i64c (l))))),(4,.one (.ptr [4] (k2+1) 0)),(6,.one (.ptr [6] (k2+1+1) 0)),(7,.one (.ptr [7] (k10+1) 0)),(9,.one (.d (.v (.int .i64 ((i:Int))))))] [([4],(k2+1,k2+1,.box [.d (.v (.int .i64 (b.lo))),.d (.v (.int .i64 (b.hi)))])),([6],(k2+1+1,k2+1+1,.box [.d (.v (.int .i64 (0))),.d (.v (.int .i64 (0)))])),([7],(k10+1,ζ,.box [.d (.v (.int .i64 (widenLo b.lo (l.take j) (-9223372036854775808)))),.d (.v (.int .i64 (min (widenHi b.hi (l.take i) 9223372036854775807) (l.getD i default))))]))]) [⟨[7],some 71,[],[]⟩,⟨[71],some 72,[[7]],[]⟩,⟨[2],some 73,[],[]⟩,⟨[9],some 74,[],[]⟩,⟨[73,74],some 75,[],[]⟩,⟨[75],some 76,[],[]⟩,⟨[72,76],some 77,[],[]⟩,⟨[7],some 78,[],[]⟩,⟨[78,77],none,[[7]],[[7]]⟩] (by kernel_rfl) (fun k27=>?_) ?_
         ·skip
          refine .fieldAddrP (.no Y) Y t119 Y Y t2 Y Y Y Y<|.load (.no Y) Y t2 Y Y (.ptr _ _ _ _ _ Y) Y Y Y Y<|.move (.no Y) Y Y Y Y<|.move (.no Y) Y Y Y Y<|.indexAddr (.no Y) Y (i) t41 Y t2 Y Y Y (.d _ _) Y Y Y (map_get (by omega)) Y Y<|.load (.no Y) Y t2 Y Y (.d _) Y Y Y Y<|.min (.no Y) Y Y Y Y (min_of _ _) Y<|.fieldAddrP (.no Y) Y t119 Y Y t2 Y Y Y Y<|.store (.no Y) Y t2 Y Y Y Y Y Y Y Y Y ?_
          exact .fin (k27+1+1+1+1+1+1+1+1) (.of (.r Y) (.r Y))
         intro g28
         refine .rs fun k29=>.mv Y<|.bi Y<|.as Y<|.z ?_
         exact .here ((i+1),g28) (.of (.cons Y (.cons Y (.cons Y (.cons Y (.cons (svI (show (IntKind.wrap .i64 ((i:Int)+1))=(((i+1):Int)) by first | rfl | omega | exact wrap_le (by omega) (by omega) | (rw [wrap_le (by omega) (by omega)]; omega))) .nil))))) (.cons Y (.cons Y (.cons (eq1 (fun z1=>some (k10+1,g28,O.box [.d (.v (.int .i64 (widenLo b.lo (l.take j) (-9223372036854775808)))),.d (.v (.int .i64 (z1)))])) (show (min (widenHi b.hi (l.take i) 9223372036854775807) (l.getD i default))=(widenHi b.hi (l.take (i+1)) 9223372036854775807) by first | rfl | (exact widenLo_yes (by omega) c3) | (exact widenLo_no (by omega) c3) | (exact widenHi_yes (by omega) c6) | (exact widenHi_no (by omega) c6))) .nil)))) ⟨(show (i+1)≤l.length by omega),(show l.length - (i+1) < l.length - i by omega)⟩
        ·have c6:=of_decide_eq_false c6
         refine .skip<|.rs fun k30=>.mv Y<|.bi Y<|.as Y<|.z ?_
         exact .here ((i+1),q24) (.of (.cons Y (.cons Y (.cons Y (.cons Y (.cons (svI (show (IntKind.wrap .i64 ((i:Int)+1))=(((i+1):Int)) by first | rfl | omega | exact wrap_le (by omega) (by omega) | (rw [wrap_le (by omega) (by omega)]; omega))) .nil))))) (.cons Y (.cons Y (.cons (eq1 (fun z1=>some (k10+1,q24,O.box [.d (.v (.int .i64 (widenLo b.lo (l.take j) (-9223372036854775808)))),.d (.v (.int .i64 (z1)))])) (show (widenHi b.hi (l.take i) 9223372036854775807)=(widenHi b.hi (l.take (i+1)) 9223372036854775807) by first | rfl | (exact widenLo_yes (by omega) c3) | (exact widenLo_no (by omega) c3) | (exact widenHi_yes (by omega) c6) | (exact widenHi_no (by omega) c6))) .nil)))) ⟨(show (i+1)≤l.length by omega),(show l.length - (i+1) < l.length - i by omega)⟩
       ·have c5:=of_decide_eq_false c5
        refine .exit<|.seq<|.rs fun k31=>.lda t119 Y (.ptr _ _ _ _ _ Y) Y<|.g (fun _ τ=>⟨_,.store (.no Y) Y t119 Y Y Y Y Y Y Y Y Y τ⟩)<|.z<|.ret ?_
        have e32:(widenLo b.lo (l.take j) (-9223372036854775808))=((Iv.widenOk l a b).lo):=by (rw [Iv.widenOk_yes c0]; simp only [Iv.widen]; first | (rw [List.take_of_length_le (by omega),if_pos c1]; done) | (rw [List.take_of_length_le (by omega),if_pos c4]; done))
        have e33:(widenHi b.hi (l.take i) 9223372036854775807)=((Iv.widenOk l a b).hi):=by (rw [Iv.widenOk_yes c0]; simp only [Iv.widen]; first | (rw [List.take_of_length_le (by omega),if_pos c1]; done) | (rw [List.take_of_length_le (by omega),if_pos c4]; done))
        have hc34:=eq2 (fun z1 z2=>some (k2+1+1,k31+1,O.box [.d (.v (.int .i64 (z1))),.d (.v (.int .i64 (z2)))])) e32 e33
        exact fin0 (.inr Y) (.cell (cells:=[.d (.v (.int .i64 ((Iv.widenOk l a b).lo))),.d (.v (.int .i64 ((Iv.widenOk l a b).hi)))]) Y hc34 t119 Y Y .nil) (.dd (.dd .nil)) Y
     ·have c4:=of_decide_eq_false c4
      refine .skip<|.seq<|.rs fun k35=>.lda t119 Y (.ptr _ _ _ _ _ Y) Y<|.g (fun _ τ=>⟨_,.store (.no Y) Y t119 Y Y Y Y Y Y Y Y Y τ⟩)<|.z<|.ret ?_
      have e36:(widenLo b.lo (l.take j) (-9223372036854775808))=((Iv.widenOk l a b).lo):=by (rw [Iv.widenOk_yes c0]; simp only [Iv.widen]; first | (rw [List.take_of_length_le (by omega),if_pos c1]; done) | (rw [if_neg c4]; done))
      have e37:(a.hi)=((Iv.widenOk l a b).hi):=by (rw [Iv.widenOk_yes c0]; simp only [Iv.widen]; first | (rw [List.take_of_length_le (by omega),if_pos c1]; done) | (rw [if_neg c4]; done))
      have hc38:=eq2 (fun z1 z2=>some (k2+1+1,k35+1,O.box [.d (.v (.int .i64 (z1))),.d (.v (.int .i64 (z2)))])) e36 e37
      exact fin0 (.inr Y) (.cell (cells:=[.d (.v (.int .i64 ((Iv.widenOk l a b).lo))),.d (.v (.int .i64 ((Iv.widenOk l a b).hi)))]) Y hc38 t119 Y Y .nil) (.dd (.dd .nil)) Y
  ·have c1:=of_decide_eq_false c1
   refine .skip<|.seq<|.seq<|.rs fun k39=>.fp t119 t2 Y<|.ld t2 Y (.ptr _ _ _ _ _ Y) Y<|.fp t119 t2 Y<|.ld t2 Y (.ptr _ _ _ _ _ Y) Y<|.bi Y ?_
   refine .z ?_
   refine .cond (t:=decide (b.hi > a.hi)) Y (fun c4=>?_) (fun c4=>?_)
   ·have c4:=of_decide_eq_true c4
    refine .seq<|.rs fun k40=>.fp t119 t2 Y<|.g (fun _ τ=>⟨_,.store (.no Y) Y t2 Y Y Y Y Y Y Y Y Y τ⟩)<|.z<|.seq<|.rs fun k41=>.as Y<|.z ?_
    refine .block ?_
    refine .loop (X:=Nat × Nat) (fun ζ=>.of [(2,.one (.d (.sl false 2 1 (List.map i64c (l))))),(4,.one (.ptr [4] (k2+1) 0)),(6,.one (.ptr [6] (k2+1+1) 0)),(7,.one (.ptr [7] (k10+1) 0)),(9,.one (.d (.v (.int .i64 ((ζ.1:Int))))))] [([4],(k2+1,k2+1,.box [.d (.v (.int .i64 (b.lo))),.d (.v (.int .i64 (b.hi)))])),([6],(k2+1+1,k2+1+1,.box [.d (.v (.int .i64 (0))),.d (.v (.int .i64 (0)))])),([7],(k10+1,ζ.2,.box [.d (.v (.int .i64 (a.lo))),.d (.v (.int .i64 (widenHi b.hi (l.take ζ.1) 9223372036854775807)))]))]) (fun ζ=>ζ.1≤l.length) (fun ζ=>l.length - ζ.1) ?_ ?_
    ·skip
     exact .here (0,(k40+1)) (.of (.cons Y (.cons Y (.cons Y (.cons Y (.cons (svI (show (0)=((0:Int)) by first | rfl | omega | exact wrap_le (by omega) (by omega) | (rw [wrap_le (by omega) (by omega)]; omega))) .nil))))) (.cons Y (.cons Y (.cons (eq1 (fun z1=>some (k10+1,k40+1,O.box [.d (.v (.int .i64 (a.lo))),.d (.v (.int .i64 (z1)))])) (show (9223372036854775807)=(widenHi b.hi (l.take 0) 9223372036854775807) by first | rfl | (exact widenLo_yes (by omega) c3) | (exact widenLo_no (by omega) c3) | (exact widenHi_yes (by omega) c6) | (exact widenHi_no (by omega) c6))) .nil)))) (show 0≤l.length by omega)
    ·rintro ⟨i,q42⟩ hI
     have hI:i≤l.length:=hI
     have hl9:l.length≤100:=by omega
     dsimp only
     refine .seq<|.seq<|.rs fun k43=>.mv Y<|.mv Y<|.g (fun _ τ=>⟨_,.len (.no Y) Y (z:=(l.length:Int)) t41 Y Y Y (.d _ _) (map_len _ _) Y τ⟩)<|.bi Y<|.z ?_
     refine .cond (t:=decide ((i:Int) < (l.length:Int))) Y (fun c5=>?_) (fun c5=>?_)
     ·have c5:=of_decide_eq_true c5
      refine .skip<|.seq<|.block<|.seq ?_
      refine .regD (X:=Unit) (by kernel_rfl) (fun ζ=>.of [(2,.one (.d (.sl false 2 1 (List.map i64c (l))))),(4,.one (.ptr [4] (k2+1) 0)),(6,.one (.ptr [6] (k2+1+1) 0)),(7,.one (.ptr [7] (k10+1) 0)),(9,.one (.d (.v (.int .i64 ((i:Int)))))),(70,.one (.d (.v (.bool (decide ((l.getD i default)≥b.hi))))))] [([4],(k2+1,k2+1,.box [.d (.v (.int .i64 (b.lo))),.d (.v (.int .i64 (b.hi)))])),([6],(k2+1+1,k2+1+1,.box [.d (.v (.int .i64 (0))),.d (.v (.int .i64 (0)))])),([7],(k10+1,q42,.box [.d (.v (.int .i64 (a.lo))),.d (.v (.int .i64 (widenHi b.hi (l.take i) 9223372036854775807)))]))]) [⟨[2],some 64,[],[]⟩,⟨[9],some 65,[],[]⟩,⟨[64,65],some 66,[],[]⟩,⟨[66],some 67,[],[]⟩,⟨[4],some 68,[],[]⟩,⟨[68],some 69,[[4]],[]⟩,⟨[67,69],some 70,[],[]⟩] (by kernel_rfl) (fun k44=>?_) ?_
      ·skip
       refine .move (.no Y) Y Y Y Y<|.move (.no Y) Y Y Y Y<|.indexAddr (.no Y) Y (i) t41 Y t2 Y Y Y (.d _ _) Y Y Y (map_get (by omega)) Y Y<|.load (.no Y) Y t2 Y Y (.d _) Y Y Y Y<|.fieldAddrP (.no Y) Y t119 Y Y t2 Y Y Y Y<|.load (.no Y) Y t2 Y Y (.ptr _ _ _ _ _ Y) Y Y Y Y<|.bin (.no Y) Y Y Y Y Y Y ?_
       exact .fin () (.of (.r Y) (.r Y))
      intro _
      refine .cond (t:=decide ((l.getD i default)≥b.hi)) Y (fun c6=>?_) (fun c6=>?_)
      ·have c6:=of_decide_eq_true c6
       refine .regD (X:=Nat) (by kernel_rfl) (fun ζ=>.of [(2,.one (.d (.sl false 2 1 (List.map i64c (l))))),(4,.one (.ptr [4] (k2+1) 0)),(6,.one (.ptr [6] (k2+1+1) 0)),(7,.one (.ptr [7] (k10+1) 0)),(9,.one (.d (.v (.int .i64 ((i:Int))))))] [([4],(k2+1,k2+1,.box [.d (.v (.int .i64 (b.lo))),.d (.v (.int .i64 (b.hi)))])),([6],(k2+1+1,k2+1+1,.box [.d (.v (.int .i64 (0))),.d (.v (.int .i64 (0)))])),([7],(k10+1,ζ,.box [.d (.v (.int .i64 (a.lo))),.d (.v (.int .i64 (min (widenHi b.hi (l.take i) 9223372036854775807) (l.getD i default))))]))]) [⟨[7],some 71,[],[]⟩,⟨[71],some 72,[[7]],[]⟩,⟨[2],some 73,[],[]⟩,⟨[9],some 74,[],[]⟩,⟨[73,74],some 75,[],[]⟩,⟨[75],some 76,[],[]⟩,⟨[72,76],some 77,[],[]⟩,⟨[7],some 78,[],[]⟩,⟨[78,77],none,[[7]],[[7]]⟩] (by kernel_rfl) (fun k45=>?_) ?_
       ·skip
        refine .fieldAddrP (.no Y) Y t119 Y Y t2 Y Y Y Y<|.load (.no Y) Y t2 Y Y (.ptr _ _ _ _ _ Y) Y Y Y Y<|.move (.no Y) Y Y Y Y<|.move (.no Y) Y Y Y Y<|.indexAddr (.no Y) Y (i) t41 Y t2 Y Y Y (.d _ _) Y Y Y (map_get (by omega)) Y Y<|.load (.no Y) Y t2 Y Y (.d _) Y Y Y Y<|.min (.no Y) Y Y Y Y (min_of _ _) Y<|.fieldAddrP (.no Y) Y t119 Y Y t2 Y Y Y Y<|.store (.no Y) Y t2 Y Y Y Y Y Y Y Y Y ?_
        exact .fin (k45+1+1+1+1+1+1+1+1) (.of (.r Y) (.r Y))
       intro g46
       refine .rs fun k47=>.mv Y<|.bi Y<|.as Y<|.z ?_
       exact .here ((i+1),g46) (.of (.cons Y (.cons Y (.cons Y (.cons Y (.cons (svI (show (IntKind.wrap .i64 ((i:Int)+1))=(((i+1):Int)) by first | rfl | omega | exact wrap_le (by omega) (by omega) | (rw [wrap_le (by omega) (by omega)]; omega))) .nil))))) (.cons Y (.cons Y (.cons (eq1 (fun z1=>some (k10+1,g46,O.box [.d (.v (.int .i64 (a.lo))),.d (.v (.int .i64 (z1)))])) (show (min (widenHi b.hi (l.take i) 9223372036854775807) (l.getD i default))=(widenHi b.hi (l.take (i+1)) 9223372036854775807) by first | rfl | (exact widenLo_yes (by omega) c3) | (exact widenLo_no (by omega) c3) | (exact widenHi_yes (by omega) c6) | (exact widenHi_no (by omega) c6))) .nil)))) ⟨(show (i+1)≤l.length by omega),(show l.length - (i+1) < l.length - i by omega)⟩
      ·have c6:=of_decide_eq_false c6
       refine .skip<|.rs fun k48=>.mv Y<|.bi Y<|.as Y<|.z ?_
       exact .here ((i+1),q42) (.of (.cons Y (.cons Y (.cons Y (.cons Y (.cons (svI (show (IntKind.wrap .i64 ((i:Int)+1))=(((i+1):Int)) by first | rfl | omega | exact wrap_le (by omega) (by omega) | (rw [wrap_le (by omega) (by omega)]; omega))) .nil))))) (.cons Y (.cons Y (.cons (eq1 (fun z1=>some (k10+1,q42,O.box [.d (.v (.int .i64 (a.lo))),.d (.v (.int .i64 (z1)))])) (show (widenHi b.hi (l.take i) 9223372036854775807)=(widenHi b.hi (l.take (i+1)) 9223372036854775807) by first | rfl | (exact widenLo_yes (by omega) c3) | (exact widenLo_no (by omega) c3) | (exact widenHi_yes (by omega) c6) | (exact widenHi_no (by omega) c6))) .nil)))) ⟨(show (i+1)≤l.length by omega),(show l.length - (i+1) < l.length - i by omega)⟩
     ·have c5:=of_decide_eq_false c5
      refine .exit<|.seq<|.rs fun k49=>.lda t119 Y (.ptr _ _ _ _ _ Y) Y<|.g (fun _ τ=>⟨_,.store (.no Y) Y t119 Y Y Y Y Y Y Y Y Y τ⟩)<|.z<|.ret ?_
      have e50:(a.lo)=((Iv.widenOk l a b).lo):=by (rw [Iv.widenOk_yes c0]; simp only [Iv.widen]; first | (rw [if_neg c1]; done) | (rw [List.take_of_length_le (by omega),if_pos c4]; done))
      have e51:(widenHi b.hi (l.take i) 9223372036854775807)=((Iv.widenOk l a b).hi):=by (rw [Iv.widenOk_yes c0]; simp only [Iv.widen]; first | (rw [if_neg c1]; done) | (rw [List.take_of_length_le (by omega),if_pos c4]; done))
      have hc52:=eq2 (fun z1 z2=>some (k2+1+1,k49+1,O.box [.d (.v (.int .i64 (z1))),.d (.v (.int .i64 (z2)))])) e50 e51
      exact fin0 (.inr Y) (.cell (cells:=[.d (.v (.int .i64 ((Iv.widenOk l a b).lo))),.d (.v (.int .i64 ((Iv.widenOk l a b).hi)))]) Y hc52 t119 Y Y .nil) (.dd (.dd .nil)) Y
   ·have c4:=of_decide_eq_false c4
    refine .skip<|.seq<|.rs fun k53=>.lda t119 Y (.ptr _ _ _ _ _ Y) Y<|.g (fun _ τ=>⟨_,.store (.no Y) Y t119 Y Y Y Y Y Y Y Y Y τ⟩)<|.z<|.ret ?_
    have e54:(a.lo)=((Iv.widenOk l a b).lo):=by (rw [Iv.widenOk_yes c0]; simp only [Iv.widen]; first | (rw [if_neg c1]; done) | (rw [if_neg c4]; done))
    have e55:(a.hi)=((Iv.widenOk l a b).hi):=by (rw [Iv.widenOk_yes c0]; simp only [Iv.widen]; first | (rw [if_neg c1]; done) | (rw [if_neg c4]; done))
    have hc56:=eq2 (fun z1 z2=>some (k2+1+1,k53+1,O.box [.d (.v (.int .i64 (z1))),.d (.v (.int .i64 (z2)))])) e54 e55
    exact fin0 (.inr Y) (.cell (cells:=[.d (.v (.int .i64 ((Iv.widenOk l a b).lo))),.d (.v (.int .i64 ((Iv.widenOk l a b).hi)))]) Y hc56 t119 Y Y .nil) (.dd (.dd .nil)) Y
theorem c_IvWiden (a:Iv) (b:Iv) (l:List Int):Trip Tryz.prog 108 [(true,2),(true,2),(false,1)] (Iv.c a++Iv.c b++[.sl false 2 1 (List.map i64c (l))]) [(true,2)] [.v (.int .i64 ((Iv.widenOk l a b).lo)),.v (.int .i64 ((Iv.widenOk l a b).hi))] []:=by
 refine Trip.of Tryz.func108 (by decide) (c:=_) Y Y (Nat.le_of_ble_eq_true Y) Y (AftOk.nil _)<|.sl (t:=2) Y fun hs1l=>.seq<|.rs fun k2=>.g (fun _ τ=>⟨_,.box (.no Y) Y Y Y Y Y τ⟩)<|.g (fun _ τ=>⟨_,.box (.no Y) Y Y Y Y Y τ⟩)<|.g (fun _ τ=>⟨_,.alloc (.no Y) Y z119 Y Y Y τ⟩)<|.z<|.seq ?_
 refine .seq ?_
 refine .reg (X:=Unit) (fun ζ=>.of [(2,.one (.d (.sl false 2 1 (List.map i64c (l))))),(3,.one (.ptr [3] (k2) 0)),(4,.one (.ptr [4] (k2+1) 0)),(6,.one (.ptr [6] (k2+1+1) 0)),(20,.one (.d (.v (.bool ((!(Iv.ok a&&Iv.ok b)||decide ((l.length:Int) > 100)))))))] [([3],(k2,k2,.box [.d (.v (.int .i64 (a.lo))),.d (.v (.int .i64 (a.hi)))])),([4],(k2+1,k2+1,.box [.d (.v (.int .i64 (b.lo))),.d (.v (.int .i64 (b.hi)))])),([6],(k2+1+1,k2+1+1,.box [.d (.v (.int .i64 (0))),.d (.v (.int .i64 (0)))]))]) [⟨[3],some 12,[[3]],[]⟩,⟨[4],some 13,[[4]],[]⟩,⟨[12,13],some 14,[],[]⟩,⟨[14],some 15,[],[]⟩,⟨[15],some 16,[],[]⟩,⟨[16,2],some 17,[],[]⟩,⟨[16,17],some 18,[],[]⟩,⟨[16,18],some 19,[],[]⟩,⟨[16,19],some 20,[],[]⟩] (fun k3=>?_) ?_
 ·skip
  refine .load (.no Y) Y t119 Y Y (.ptr _ _ _ _ _ Y) Y Y Y Y<|.load (.no Y) Y t119 Y Y (.ptr _ _ _ _ _ Y) Y Y Y Y<|.call (.no Y) Y [] [] (c_areIvs a b) Y Y Y Y Y (.dd (.dd (.dd (.dd .nil)))) Y Y (fun h=>absurd Y h) (.own [14,0] .nil) (.nil) Y Y Y (by simp) Y Y Y<|.un (.no Y) Y Y Y Y Y<|.moveB (.no Y) Y Y Y Y fun b4 g1_4=>?_
  cases b4
  ·skip
   refine .move (.on Y Y Y Y Y) Y Y Y Y<|.len (.on Y Y Y Y Y) Y (z:=(l.length:Int)) t41 Y Y Y (.d _ _) (map_len _ _) Y<|.bin (.on Y Y Y Y Y) Y Y Y Y Y Y<|.pick (.no Y) Y Y Y Y Y ?_
   exact .fin () (.of (.cons Y (.cons Y (.cons Y (.cons Y (.cons (svB (show (decide ((l.length:Int) > 100))=((!(Iv.ok a&&Iv.ok b)||decide ((l.length:Int) > 100))) by first | (simp only [g1_4,Bool.true_or,Bool.false_or,Bool.true_and,Bool.false_and,Bool.not_true,Bool.not_false]; done) | (simp [g1_4]; done) | (exfalso; simp_all; done))) .nil))))) (.r Y))
  ·skip
   refine .off Y Y Y Y Y Y Y<|.off Y Y Y Y Y Y Y<|.off Y Y Y Y Y Y Y<|.pick (.no Y) Y Y Y Y Y ?_
   exact .fin () (.of (.cons Y (.cons Y (.cons Y (.cons Y (.cons (svB (show (true)=((!(Iv.ok a&&Iv.ok b)||decide ((l.length:Int) > 100))) by first | (simp only [g1_4,Bool.true_or,Bool.false_or,Bool.true_and,Bool.false_and,Bool.not_true,Bool.not_false]; done) | (simp [g1_4]; done) | (exfalso; simp_all; done))) .nil))))) (.r Y))
 intro _
 refine .cond (t:=(!(Iv.ok a&&Iv.ok b)||decide ((l.length:Int) > 100))) Y (fun c0=>?_) (fun c0=>?_)
 ·have c0:=(oT (nT (aF id id)) dT) c0
  refine .seq<|.rs fun k5=>.g (fun _ τ=>⟨_,.build (.no Y) Y z119 Y p119 Y Y Y Y τ⟩)<|.g (fun _ τ=>⟨_,.store (.no Y) Y t119 Y Y Y Y Y Y Y Y Y τ⟩)<|.z<|.ret ?_
  have e6:(0)=((Iv.widenOk l a b).lo):=by (rw [Iv.widenOk_no c0])
  have e7:(0)=((Iv.widenOk l a b).hi):=by (rw [Iv.widenOk_no c0])
  have hc8:=eq2 (fun z1 z2=>some (k2+1+1,k5+1,O.box [.d (.v (.int .i64 (z1))),.d (.v (.int .i64 (z2)))])) e6 e7
  exact fin0 (.inr Y) (.cell (cells:=[.d (.v (.int .i64 ((Iv.widenOk l a b).lo))),.d (.v (.int .i64 ((Iv.widenOk l a b).hi)))]) Y hc8 t119 Y Y .nil) (.dd (.dd .nil)) Y
 ·have c0:=(oF (nF (aT id id)) dF) c0
  refine .skip<|.seq<|.rs fun k9=>.lda t119 Y (.ptr _ _ _ _ _ Y) Y<|.g (fun _ τ=>⟨_,.alloc (.no Y) Y z119 Y Y Y τ⟩)<|.g (fun _ τ=>⟨_,.store (.no Y) Y t119 Y Y Y Y Y Y Y Y Y τ⟩)<|.z<|.seq<|.seq ?_
  refine .rs fun k10=>.fp t119 t2 Y<|.ld t2 Y (.ptr _ _ _ _ _ Y) Y<|.fp t119 t2 Y<|.ld t2 Y (.ptr _ _ _ _ _ Y) Y<|.bi Y<|.z ?_
  refine .cond (t:=decide (b.lo < a.lo)) Y (fun c1=>?_) (fun c1=>?_)
  ·have c1:=of_decide_eq_true c1
   refine .seq<|.rs fun k11=>.fp t119 t2 Y<|.g (fun _ τ=>⟨_,.store (.no Y) Y t2 Y Y Y Y Y Y Y Y Y τ⟩)<|.z<|.seq<|.rs fun k12=>.mv Y<|.g (fun _ τ=>⟨_,.len (.no Y) Y (z:=(l.length:Int)) t41 Y Y Y (.d _ _) (map_len _ _) Y τ⟩) ?_
   refine .mv Y<|.z<|.block ?_
   refine .loop (X:=Nat × Nat) (fun ζ=>.of [(2,.one (.d (.sl false 2 1 (List.map i64c (l))))),(3,.one (.ptr [3] (k2) 0)),(4,.one (.ptr [4] (k2+1) 0)),(6,.one (.ptr [6] (k2+1+1) 0)),(7,.one (.ptr [7] (k9+1) 0)),(29,.one (.d (.sl false 2 1 (List.map i64c (l))))),(30,.one (.d (.v (.int .i64 ((l.length:Int)))))),(31,.one (.d (.v (.int .i64 ((ζ.1:Int))))))] [([3],(k2,k2,.box [.d (.v (.int .i64 (a.lo))),.d (.v (.int .i64 (a.hi)))])),([4],(k2+1,k2+1,.box [.d (.v (.int .i64 (b.lo))),.d (.v (.int .i64 (b.hi)))])),([6],(k2+1+1,k2+1+1,.box [.d (.v (.int .i64 (0))),.d (.v (.int .i64 (0)))])),([7],(k9+1,ζ.2,.box [.d (.v (.int .i64 (widenLo b.lo (l.take ζ.1) (-9223372036854775808)))),.d (.v (.int .i64 (a.hi)))]))]) (fun ζ=>ζ.1≤l.length) (fun ζ=>l.length - ζ.1) ?_ ?_
   ·skip
    exact .here (0,(k11+1)) (.of (.cons Y (.cons Y (.cons Y (.cons Y (.cons Y (.cons Y (.cons Y (.cons (svI (show (0)=((0:Int)) by first | rfl | omega | exact wrap_le (by omega) (by omega) | (rw [wrap_le (by omega) (by omega)]; omega))) .nil)))))))) (.cons Y (.cons Y (.cons Y (.cons (eq1 (fun z1=>some (k9+1,k11+1,O.box [.d (.v (.int .i64 (z1))),.d (.v (.int .i64 (a.hi)))])) (show (-9223372036854775808)=(widenLo b.lo (l.take 0) (-9223372036854775808)) by first | rfl | (exact widenLo_yes (by omega) c3) | (exact widenLo_no (by omega) c3) | (exact widenHi_yes (by omega) c6) | (exact widenHi_no (by omega) c6))) .nil))))) (show 0≤l.length by omega)
   ·rintro ⟨j,q13⟩ hI
    have hI:j≤l.length:=hI
    have hl9:l.length≤100:=by omega
    dsimp only
    refine .seq<|.rs fun k14=>.bi Y<|.z<|.seq ?_
    refine .cond (t:=decide ((j:Int) < (l.length:Int))) Y (fun c2=>?_) (fun c2=>?_)
    ·have c2:=of_decide_eq_true c2
     refine .skip<|.seq<|.block<|.seq<|.rs fun k15=>.g (fun _ τ=>⟨_,.indexAddr (.no Y) Y (j) t41 Y t2 Y Y Y (.d _ _) Y Y Y (map_get (by omega)) Y Y τ⟩)<|.ld t2 Y (.d _) Y<|.as Y<|.z ?_
     refine .seq<|.rs fun k16=>.mv Y<|.fp t119 t2 Y<|.ld t2 Y (.ptr _ _ _ _ _ Y) Y<|.bi Y<|.z ?_
     refine .cond (t:=decide ((l.getD j default)≤b.lo)) Y (fun c3=>?_) (fun c3=>?_)
     ·have c3:=of_decide_eq_true c3
      refine .rs fun k17=>.fp t119 t2 Y<|.ld t2 Y (.ptr _ _ _ _ _ Y) Y<|.mv Y<|.g (fun _ τ=>⟨_,.max (.no Y) Y Y Y Y (max_of _ _) Y τ⟩)<|.fp t119 t2 Y<|.g (fun _ τ=>⟨_,.store (.no Y) Y t2 Y Y Y Y Y Y Y Y Y τ⟩)<|.z<|.rs fun k18=>?_
      refine .bi Y<|.mv Y<|.z ?_
      exact .here ((j+1),(k17+1+1+1+1+1)) (.of (.cons Y (.cons Y (.cons Y (.cons Y (.cons Y (.cons Y (.cons Y (.cons (svI (show (IntKind.wrap .i64 ((j:Int)+1))=(((j+1):Int)) by first | rfl | omega | exact wrap_le (by omega) (by omega) | (rw [wrap_le (by omega) (by omega)]; omega))) .nil)))))))) (.cons Y (.cons Y (.cons Y (.cons (eq1 (fun z1=>some (k9+1,k17+1+1+1+1+1,O.box [.d (.v (.int .i64 (z1))),.d (.v (.int .i64 (a.hi)))])) (show (max (widenLo b.lo (l.take j) (-9223372036854775808)) (l.getD j default))=(widenLo b.lo (l.take (j+1)) (-9223372036854775808)) by first | rfl | (exact widenLo_yes (by omega) c3) | (exact widenLo_no (by omega) c3) | (exact widenHi_yes (by omega) c6) | (exact widenHi_no (by omega) c6))) .nil))))) ⟨(show (j+1)≤l.length by omega),(show l.length - (j+1) < l.length - j by omega)⟩
     ·have c3:=of_decide_eq_false c3
      refine .skip<|.rs fun k19=>.bi Y<|.mv Y<|.z ?_
      exact .here ((j+1),q13) (.of (.cons Y (.cons Y (.cons Y (.cons Y (.cons Y (.cons Y (.cons Y (.cons (svI (show (IntKind.wrap .i64 ((j:Int)+1))=(((j+1):Int)) by first | rfl | omega | exact wrap_le (by omega) (by omega) | (rw [wrap_le (by omega) (by omega)]; omega))) .nil)))))))) (.cons Y (.cons Y (.cons Y (.cons (eq1 (fun z1=>some (k9+1,q13,O.box [.d (.v (.int .i64 (z1))),.d (.v (.int .i64 (a.hi)))])) (show (widenLo b.lo (l.take j) (-9223372036854775808))=(widenLo b.lo (l.take (j+1)) (-9223372036854775808)) by first | rfl | (exact widenLo_yes (by omega) c3) | (exact widenLo_no (by omega) c3) | (exact widenHi_yes (by omega) c6) | (exact widenHi_no (by omega) c6))) .nil))))) ⟨(show (j+1)≤l.length by omega),(show l.length - (j+1) < l.length - j by omega)⟩
    ·have c2:=of_decide_eq_false c2
     refine .exit<|.seq<|.seq<|.rs fun k20=>.fp t119 t2 Y<|.ld t2 Y (.ptr _ _ _ _ _ Y) Y<|.fp t119 t2 Y<|.ld t2 Y (.ptr _ _ _ _ _ Y) Y<|.bi Y ?_
     refine .z ?_
     refine .cond (t:=decide (b.hi > a.hi)) Y (fun c4=>?_) (fun c4=>?_)
     ·have c4:=of_decide_eq_true c4
      refine .seq<|.rs fun k21=>.fp t119 t2 Y<|.g (fun _ τ=>⟨_,.store (.no Y) Y t2 Y Y Y Y Y Y Y Y Y τ⟩)<|.z<|.seq<|.rs fun k22=>.mv Y<|.g (fun _ τ=>⟨_,.len (.no Y) Y (z:=(l.length:Int)) t41 Y Y Y (.d _ _) (map_len _ _) Y τ⟩) ?_
      refine .mv Y<|.z<|.block ?_
      refine .loop (X:=Nat × Nat) (fun ζ=>.of [(4,.one (.ptr [4] (k2+1) 0)),(6,.one (.ptr [6] (k2+1+1) 0)),(7,.one (.ptr [7] (k9+1) 0)),(51,.one (.d (.sl false 2 1 (List.map i64c (l))))),(52,.one (.d (.v (.int .i64 ((l.length:Int)))))),(53,.one (.d (.v (.int .i64 ((ζ.1:Int))))))] [([4],(k2+1,k2+1,.box [.d (.v (.int .i64 (b.lo))),.d (.v (.int .i64 (b.hi)))])),([6],(k2+1+1,k2+1+1,.box [.d (.v (.int .i64 (0))),.d (.v (.int .i64 (0)))])),([7],(k9+1,ζ.2,.box [.d (.v (.int .i64 (widenLo b.lo (l.take j) (-9223372036854775808)))),.d (.v (.int .i64 (widenHi b.hi (l.take ζ.1) 9223372036854775807)))]))]) (fun ζ=>ζ.1≤l.length) (fun ζ=>l.length - ζ.1) ?_ ?_
      ·skip
       exact .here (0,(k21+1)) (.of (.cons Y (.cons Y (.cons Y (.cons Y (.cons Y (.cons (svI (show (0)=((0:Int)) by first | rfl | omega | exact wrap_le (by omega) (by omega) | (rw [wrap_le (by omega) (by omega)]; omega))) .nil)))))) (.cons Y (.cons Y (.cons (eq1 (fun z1=>some (k9+1,k21+1,O.box [.d (.v (.int .i64 (widenLo b.lo (l.take j) (-9223372036854775808)))),.d (.v (.int .i64 (z1)))])) (show (9223372036854775807)=(widenHi b.hi (l.take 0) 9223372036854775807) by first | rfl | (exact widenLo_yes (by omega) c3) | (exact widenLo_no (by omega) c3) | (exact widenHi_yes (by omega) c6) | (exact widenHi_no (by omega) c6))) .nil)))) (show 0≤l.length by omega)
      ·rintro ⟨i,q23⟩ hI
       have hI:i≤l.length:=hI
       have hl9:l.length≤100:=by omega
       have hj9:=‹j≤l.length›
       dsimp only
       refine .seq<|.rs fun k24=>.bi Y<|.z<|.seq ?_
       refine .cond (t:=decide ((i:Int) < (l.length:Int))) Y (fun c5=>?_) (fun c5=>?_)
       ·have c5:=of_decide_eq_true c5
        refine .skip<|.seq<|.block<|.seq<|.rs fun k25=>.g (fun _ τ=>⟨_,.indexAddr (.no Y) Y (i) t41 Y t2 Y Y Y (.d _ _) Y Y Y (map_get (by omega)) Y Y τ⟩)<|.ld t2 Y (.d _) Y<|.as Y<|.z ?_
        refine .seq<|.rs fun k26=>.mv Y<|.fp t119 t2 Y<|.ld t2 Y (.ptr _ _ _ _ _ Y) Y<|.bi Y<|.z ?_
        refine .cond (t:=decide ((l.getD i default)≥b.hi)) Y (fun c6=>?_) (fun c6=>?_)
        ·have c6:=of_decide_eq_true c6
         refine .rs fun k27=>.fp t119 t2 Y<|.ld t2 Y (.ptr _ _ _ _ _ Y) Y<|.mv Y<|.g (fun _ τ=>⟨_,.min (.no Y) Y Y Y Y (min_of _ _) Y τ⟩)<|.fp t119 t2 Y<|.g (fun _ τ=>⟨_,.store (.no Y) Y t2 Y Y Y Y Y Y Y Y Y τ⟩)<|.z<|.rs fun k28=>?_
         refine .bi Y<|.mv Y<|.z ?_
         exact .here ((i+1),(k27+1+1+1+1+1)) (.of (.cons Y (.cons Y (.cons Y (.cons Y (.cons Y (.cons (svI (show (IntKind.wrap .i64 ((i:Int)+1))=(((i+1):Int)) by first | rfl | omega | exact wrap_le (by omega) (by omega) | (rw [wrap_le (by omega) (by omega)]; omega))) .nil)))))) (.cons Y (.cons Y (.cons (eq1 (fun z1=>some (k9+1,k27+1+1+1+1+1,O.box [.d (.v (.int .i64 (widenLo b.lo (l.take j) (-9223372036854775808)))),.d (.v (.int .i64 (z1)))])) (show (min (widenHi b.hi (l.take i) 9223372036854775807) (l.getD i default))=(widenHi b.hi (l.take (i+1)) 9223372036854775807) by first | rfl | (exact widenLo_yes (by omega) c3) | (exact widenLo_no (by omega) c3) | (exact widenHi_yes (by omega) c6) | (exact widenHi_no (by omega) c6))) .nil)))) ⟨(show (i+1)≤l.length by omega),(show l.length - (i+1) < l.length - i by omega)⟩
        ·have c6:=of_decide_eq_false c6
         refine .skip<|.rs fun k29=>.bi Y<|.mv Y<|.z ?_
         exact .here ((i+1),q23) (.of (.cons Y (.cons Y (.cons Y (.cons Y (.cons Y (.cons (svI (show (IntKind.wrap .i64 ((i:Int)+1))=(((i+1):Int)) by first | rfl | omega | exact wrap_le (by omega) (by omega) | (rw [wrap_le (by omega) (by omega)]; omega))) .nil)))))) (.cons Y (.cons Y (.cons (eq1 (fun z1=>some (k9+1,q23,O.box [.d (.v (.int .i64 (widenLo b.lo (l.take j) (-9223372036854775808)))),.d (.v (.int .i64 (z1)))])) (show (widenHi b.hi (l.take i) 9223372036854775807)=(widenHi b.hi (l.take (i+1)) 9223372036854775807) by first | rfl | (exact widenLo_yes (by omega) c3) | (exact widenLo_no (by omega) c3) | (exact widenHi_yes (by omega) c6) | (exact widenHi_no (by omega) c6))) .nil)))) ⟨(show (i+1)≤l.length by omega),(show l.length - (i+1) < l.length - i by omega)⟩
       ·have c5:=of_decide_eq_false c5
        refine .exit<|.seq<|.rs fun k30=>.lda t119 Y (.ptr _ _ _ _ _ Y) Y<|.g (fun _ τ=>⟨_,.store (.no Y) Y t119 Y Y Y Y Y Y Y Y Y τ⟩)<|.z<|.ret ?_
        have e31:(widenLo b.lo (l.take j) (-9223372036854775808))=((Iv.widenOk l a b).lo):=by (rw [Iv.widenOk_yes c0]; simp only [Iv.widen]; first | (rw [List.take_of_length_le (by omega),if_pos c1]; done) | (rw [List.take_of_length_le (by omega),if_pos c4]; done))
        have e32:(widenHi b.hi (l.take i) 9223372036854775807)=((Iv.widenOk l a b).hi):=by (rw [Iv.widenOk_yes c0]; simp only [Iv.widen]; first | (rw [List.take_of_length_le (by omega),if_pos c1]; done) | (rw [List.take_of_length_le (by omega),if_pos c4]; done))
        have hc33:=eq2 (fun z1 z2=>some (k2+1+1,k30+1,O.box [.d (.v (.int .i64 (z1))),.d (.v (.int .i64 (z2)))])) e31 e32
        exact fin0 (.inr Y) (.cell (cells:=[.d (.v (.int .i64 ((Iv.widenOk l a b).lo))),.d (.v (.int .i64 ((Iv.widenOk l a b).hi)))]) Y hc33 t119 Y Y .nil) (.dd (.dd .nil)) Y
     ·have c4:=of_decide_eq_false c4
      refine .skip<|.seq<|.rs fun k34=>.lda t119 Y (.ptr _ _ _ _ _ Y) Y<|.g (fun _ τ=>⟨_,.store (.no Y) Y t119 Y Y Y Y Y Y Y Y Y τ⟩)<|.z<|.ret ?_
      have e35:(widenLo b.lo (l.take j) (-9223372036854775808))=((Iv.widenOk l a b).lo):=by (rw [Iv.widenOk_yes c0]; simp only [Iv.widen]; first | (rw [List.take_of_length_le (by omega),if_pos c1]; done) | (rw [if_neg c4]; done))
      have e36:(a.hi)=((Iv.widenOk l a b).hi):=by (rw [Iv.widenOk_yes c0]; simp only [Iv.widen]; first | (rw [List.take_of_length_le (by omega),if_pos c1]; done) | (rw [if_neg c4]; done))
      have hc37:=eq2 (fun z1 z2=>some (k2+1+1,k34+1,O.box [.d (.v (.int .i64 (z1))),.d (.v (.int .i64 (z2)))])) e35 e36
      exact fin0 (.inr Y) (.cell (cells:=[.d (.v (.int .i64 ((Iv.widenOk l a b).lo))),.d (.v (.int .i64 ((Iv.widenOk l a b).hi)))]) Y hc37 t119 Y Y .nil) (.dd (.dd .nil)) Y
  ·have c1:=of_decide_eq_false c1
   refine .skip<|.seq<|.seq<|.rs fun k38=>.fp t119 t2 Y<|.ld t2 Y (.ptr _ _ _ _ _ Y) Y<|.fp t119 t2 Y<|.ld t2 Y (.ptr _ _ _ _ _ Y) Y<|.bi Y ?_
   refine .z ?_
   refine .cond (t:=decide (b.hi > a.hi)) Y (fun c4=>?_) (fun c4=>?_)
   ·have c4:=of_decide_eq_true c4
    refine .seq<|.rs fun k39=>.fp t119 t2 Y<|.g (fun _ τ=>⟨_,.store (.no Y) Y t2 Y Y Y Y Y Y Y Y Y τ⟩)<|.z<|.seq<|.rs fun k40=>.mv Y<|.g (fun _ τ=>⟨_,.len (.no Y) Y (z:=(l.length:Int)) t41 Y Y Y (.d _ _) (map_len _ _) Y τ⟩) ?_
    refine .mv Y<|.z<|.block ?_
    refine .loop (X:=Nat × Nat) (fun ζ=>.of [(4,.one (.ptr [4] (k2+1) 0)),(6,.one (.ptr [6] (k2+1+1) 0)),(7,.one (.ptr [7] (k9+1) 0)),(51,.one (.d (.sl false 2 1 (List.map i64c (l))))),(52,.one (.d (.v (.int .i64 ((l.length:Int)))))),(53,.one (.d (.v (.int .i64 ((ζ.1:Int))))))] [([4],(k2+1,k2+1,.box [.d (.v (.int .i64 (b.lo))),.d (.v (.int .i64 (b.hi)))])),([6],(k2+1+1,k2+1+1,.box [.d (.v (.int .i64 (0))),.d (.v (.int .i64 (0)))])),([7],(k9+1,ζ.2,.box [.d (.v (.int .i64 (a.lo))),.d (.v (.int .i64 (widenHi b.hi (l.take ζ.1) 9223372036854775807)))]))]) (fun ζ=>ζ.1≤l.length) (fun ζ=>l.length - ζ.1) ?_ ?_
    ·skip
     exact .here (0,(k39+1)) (.of (.cons Y (.cons Y (.cons Y (.cons Y (.cons Y (.cons (svI (show (0)=((0:Int)) by first | rfl | omega | exact wrap_le (by omega) (by omega) | (rw [wrap_le (by omega) (by omega)]; omega))) .nil)))))) (.cons Y (.cons Y (.cons (eq1 (fun z1=>some (k9+1,k39+1,O.box [.d (.v (.int .i64 (a.lo))),.d (.v (.int .i64 (z1)))])) (show (9223372036854775807)=(widenHi b.hi (l.take 0) 9223372036854775807) by first | rfl | (exact widenLo_yes (by omega) c3) | (exact widenLo_no (by omega) c3) | (exact widenHi_yes (by omega) c6) | (exact widenHi_no (by omega) c6))) .nil)))) (show 0≤l.length by omega)
    ·rintro ⟨i,q41⟩ hI
     have hI:i≤l.length:=hI
     have hl9:l.length≤100:=by omega
     dsimp only
     refine .seq<|.rs fun k42=>.bi Y<|.z<|.seq ?_
     refine .cond (t:=decide ((i:Int) < (l.length:Int))) Y (fun c5=>?_) (fun c5=>?_)
     ·have c5:=of_decide_eq_true c5
      refine .skip<|.seq<|.block<|.seq<|.rs fun k43=>.g (fun _ τ=>⟨_,.indexAddr (.no Y) Y (i) t41 Y t2 Y Y Y (.d _ _) Y Y Y (map_get (by omega)) Y Y τ⟩)<|.ld t2 Y (.d _) Y<|.as Y<|.z ?_
      refine .seq<|.rs fun k44=>.mv Y<|.fp t119 t2 Y<|.ld t2 Y (.ptr _ _ _ _ _ Y) Y<|.bi Y<|.z ?_
      refine .cond (t:=decide ((l.getD i default)≥b.hi)) Y (fun c6=>?_) (fun c6=>?_)
      ·have c6:=of_decide_eq_true c6
       refine .rs fun k45=>.fp t119 t2 Y<|.ld t2 Y (.ptr _ _ _ _ _ Y) Y<|.mv Y<|.g (fun _ τ=>⟨_,.min (.no Y) Y Y Y Y (min_of _ _) Y τ⟩)<|.fp t119 t2 Y<|.g (fun _ τ=>⟨_,.store (.no Y) Y t2 Y Y Y Y Y Y Y Y Y τ⟩)<|.z<|.rs fun k46=>?_
       refine .bi Y<|.mv Y<|.z ?_
       exact .here ((i+1),(k45+1+1+1+1+1)) (.of (.cons Y (.cons Y (.cons Y (.cons Y (.cons Y (.cons (svI (show (IntKind.wrap .i64 ((i:Int)+1))=(((i+1):Int)) by first | rfl | omega | exact wrap_le (by omega) (by omega) | (rw [wrap_le (by omega) (by omega)]; omega))) .nil)))))) (.cons Y (.cons Y (.cons (eq1 (fun z1=>some (k9+1,k45+1+1+1+1+1,O.box [.d (.v (.int .i64 (a.lo))),.d (.v (.int .i64 (z1)))])) (show (min (widenHi b.hi (l.take i) 9223372036854775807) (l.getD i default))=(widenHi b.hi (l.take (i+1)) 9223372036854775807) by first | rfl | (exact widenLo_yes (by omega) c3) | (exact widenLo_no (by omega) c3) | (exact widenHi_yes (by omega) c6) | (exact widenHi_no (by omega) c6))) .nil)))) ⟨(show (i+1)≤l.length by omega),(show l.length - (i+1) < l.length - i by omega)⟩
      ·have c6:=of_decide_eq_false c6
       refine .skip<|.rs fun k47=>.bi Y<|.mv Y<|.z ?_
       exact .here ((i+1),q41) (.of (.cons Y (.cons Y (.cons Y (.cons Y (.cons Y (.cons (svI (show (IntKind.wrap .i64 ((i:Int)+1))=(((i+1):Int)) by first | rfl | omega | exact wrap_le (by omega) (by omega) | (rw [wrap_le (by omega) (by omega)]; omega))) .nil)))))) (.cons Y (.cons Y (.cons (eq1 (fun z1=>some (k9+1,q41,O.box [.d (.v (.int .i64 (a.lo))),.d (.v (.int .i64 (z1)))])) (show (widenHi b.hi (l.take i) 9223372036854775807)=(widenHi b.hi (l.take (i+1)) 9223372036854775807) by first | rfl | (exact widenLo_yes (by omega) c3) | (exact widenLo_no (by omega) c3) | (exact widenHi_yes (by omega) c6) | (exact widenHi_no (by omega) c6))) .nil)))) ⟨(show (i+1)≤l.length by omega),(show l.length - (i+1) < l.length - i by omega)⟩
     ·have c5:=of_decide_eq_false c5
      refine .exit<|.seq<|.rs fun k48=>.lda t119 Y (.ptr _ _ _ _ _ Y) Y<|.g (fun _ τ=>⟨_,.store (.no Y) Y t119 Y Y Y Y Y Y Y Y Y τ⟩)<|.z<|.ret ?_
      have e49:(a.lo)=((Iv.widenOk l a b).lo):=by (rw [Iv.widenOk_yes c0]; simp only [Iv.widen]; first | (rw [if_neg c1]; done) | (rw [List.take_of_length_le (by omega),if_pos c4]; done))
      have e50:(widenHi b.hi (l.take i) 9223372036854775807)=((Iv.widenOk l a b).hi):=by (rw [Iv.widenOk_yes c0]; simp only [Iv.widen]; first | (rw [if_neg c1]; done) | (rw [List.take_of_length_le (by omega),if_pos c4]; done))
      have hc51:=eq2 (fun z1 z2=>some (k2+1+1,k48+1,O.box [.d (.v (.int .i64 (z1))),.d (.v (.int .i64 (z2)))])) e49 e50
      exact fin0 (.inr Y) (.cell (cells:=[.d (.v (.int .i64 ((Iv.widenOk l a b).lo))),.d (.v (.int .i64 ((Iv.widenOk l a b).hi)))]) Y hc51 t119 Y Y .nil) (.dd (.dd .nil)) Y
   ·have c4:=of_decide_eq_false c4
    refine .skip<|.seq<|.rs fun k52=>.lda t119 Y (.ptr _ _ _ _ _ Y) Y<|.g (fun _ τ=>⟨_,.store (.no Y) Y t119 Y Y Y Y Y Y Y Y Y τ⟩)<|.z<|.ret ?_
    have e53:(a.lo)=((Iv.widenOk l a b).lo):=by (rw [Iv.widenOk_yes c0]; simp only [Iv.widen]; first | (rw [if_neg c1]; done) | (rw [if_neg c4]; done))
    have e54:(a.hi)=((Iv.widenOk l a b).hi):=by (rw [Iv.widenOk_yes c0]; simp only [Iv.widen]; first | (rw [if_neg c1]; done) | (rw [if_neg c4]; done))
    have hc55:=eq2 (fun z1 z2=>some (k2+1+1,k52+1,O.box [.d (.v (.int .i64 (z1))),.d (.v (.int .i64 (z2)))])) e53 e54
    exact fin0 (.inr Y) (.cell (cells:=[.d (.v (.int .i64 ((Iv.widenOk l a b).lo))),.d (.v (.int .i64 ((Iv.widenOk l a b).hi)))]) Y hc55 t119 Y Y .nil) (.dd (.dd .nil)) Y
end Go.Proofs

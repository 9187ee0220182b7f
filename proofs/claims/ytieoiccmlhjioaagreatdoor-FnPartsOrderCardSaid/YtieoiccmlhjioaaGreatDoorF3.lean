/- Contracts of the program's functions at this seat, printed by a program of ours and checked by Lean: each under the conditions of its own statement. -/
import Derived.Test.YtieoiccmlhjioaaGreatDoorF2
import Derived.Test.YtieoiccmlhjioaaGreatDoorE4
import Derived.Shelf.Spec.SlicesInsertGrow
set_option linter.all false
set_option linter.unnecessarySimpa false
set_option linter.unusedSectionVars false
set_option linter.unusedSimpArgs false
set_option linter.unusedVariables false
namespace Go.Proofs
open Go Go.Proofs Go.Ev

theorem c_CloneY (l:List Entry) (hb:l.length≤2097152):Trip Tryz.prog 148 [(false,1)] ([.sl false 115 2 (List.map Entry.c (l))]) [(false,1)] [.sl true 115 2 (List.map Entry.c (l))] []:=by
 refine Trip.of Tryz.func148 (by decide) (c:=_) Y Y (Nat.le_of_ble_eq_true Y) Y (AftOk.nil _)<|.sl (t:=0) Y fun hs1l=>.seq<|.rs fun k2=>.as Y<|.z<|.seq<|.seq ?_
 refine .nilEq t49 Y Y Y Y Y Y Y Y Y Y Y (fun b3 hb3=>?_)
 refine .cond (t:=b3) Y (fun c0=>?_) (fun c0=>?_)
 ·have c0:=c0
  refine .seq<|.rs fun k4=>.as Y<|.z<|.ret ?_
  exact fin0 (.inr Y) (.one Y .nil) (.cons (Gives.nil' (by first | rfl | simp_all)) .nil) Y
 ·have c0:=c0
  refine .skip<|.seq<|.rs fun k5=>.g (fun _ τ=>⟨_,.buildSlice (.no Y) Y (els:=[]) t49 Y z115 Y Y Y Y Y Y Y Y (by simp [i115]) .nil Y Y Y τ⟩)<|.mv Y<|.g (fun _ τ=>⟨_,.append (.no Y) Y (l3:=List.map Entry.c (l)) t49 Y z115 Y Y Y Y Y Y Y Y (.ref _ _ _ _ Y) (.ro _ _) Y (by simp [i115]; omega) (List.nil_append _) Y Y τ⟩)<|.as Y<|.z<|.ret ?_
  exact fin1 (.inr Y) [] [([5],(k5+1+1,k5+1+1,.row 115 2 (List.map Entry.c (l))))] (.one Y .nil) (.cons (.ref (.head _)) .nil) Y Y (.r Y)
theorem c_pown (p:Part) (hb:Part.small p):Trip Tryz.prog 99 [(true,2)] (Part.c62 p) [(true,2)] [.sl true 115 2 (List.map Entry.c (p.token)),.sl true 98 3 (List.map Env.co98 (p.table))] []:=by
 refine Trip.of Tryz.func99 (by decide) (c:=_) Y Y (Nat.le_of_ble_eq_true Y) Y (AftOk.nil _)<|.sla (t:=0) 0 Y Y fun hs1l=>.sla (t:=0) 1 Y Y fun hs2l=>.seq<|.rs fun k3=>.g (fun _ τ=>⟨_,.box (.no Y) Y Y Y Y Y τ⟩)<|.g (fun _ τ=>⟨_,.alloc (.no Y) Y z62 Y Y Y τ⟩)<|.z<|.seq ?_
 refine .rs fun k4=>.fp t62 t49 Y<|.ld t49 Y (.ptr _ _ _ _ _ Y) Y<|.c0 (c_CloneY p.token (by first | exact Nat.le_trans hb.1 (by decide) | exact hb.2.2 _ (getD_mem (by omega)))) Y (.dd .nil) (.own [8,0] .nil) Y<|.g (fun _ τ=>⟨_,.build (.no Y) Y z62 Y p62 Y Y Y Y τ⟩)<|.g (fun _ τ=>⟨_,.alloc (.no Y) Y z62 Y Y Y τ⟩)<|.g (fun _ τ=>⟨_,.store (.no Y) Y t62 Y Y Y Y Y Y Y Y Y τ⟩)<|.z<|.seq ?_
 refine .seq<|.rs fun k5=>.fp t62 t60 Y<|.ld t60 Y (.ptr _ _ _ _ _ Y) Y<|.g (fun _ τ=>⟨_,.len (.no Y) Y (z:=(p.table.length:Int)) t60 Y Y Y (.d _ _) (map_len _ _) Y τ⟩)<|.mv Y<|.z<|.block ?_
 refine .loop (X:=Nat × Nat × Nat × Nat) (fun ζ=>.of [(2,.one (.ptr [2] (k3+1) 0)),(3,.one (.ptr [3] (k4+1+1+1+1) 0)),(11,.one (.d (.sl false 98 3 (List.map Env.c98 (p.table))))),(12,.one (.d (.v (.int .i64 ((p.table.length:Int)))))),(13,.one (.d (.v (.int .i64 ((ζ.1:Int))))))] [([2],(k3+1,k3+1,.box [.d (.v (.slice none 0 0)),.d (.v (.slice none 0 0))])),([3],(k4+1+1+1+1,ζ.2.1,.box [.ref [8,0] (k4+1+1),.ref [22] (ζ.2.2.2)])),([8,0],(k4+1+1,k4+1+1,.row 115 2 (List.map Entry.c (p.token)))),([22],(ζ.2.2.2,ζ.2.2.1,.row 98 3 (List.map Env.co98 (p.table.take ζ.1))))]) (fun ζ=>ζ.1≤p.table.length) (fun ζ=>p.table.length - ζ.1) ?_ ?_
 ·skip
  refine .nilBox [3] 1 [22] 98 3 Y Y (by decide) fun k9=>?_
  exact .here (0,k9,k9,k9) (.of (.cons Y (.cons Y (.cons Y (.cons Y (.cons (svI (show (0)=((0:Int)) by first | rfl | omega | exact wrap_le (by omega) (by omega) | (rw [wrap_le (by omega) (by omega)]; omega))) .nil))))) (.cons Y (.cons Y (.cons Y (.cons (rowE (show []=List.map Env.co98 (p.table.take 0) by first | with_reducible rfl | exact congrArg _ (take_step9 (by omega)) | rfl)) .nil))))) (show 0≤p.table.length by omega)
 ·rintro ⟨j,q6,q7,q8⟩ hI
  have hI:j≤p.table.length:=hI
  have h7:=hb.2.1
  dsimp only
  refine .seq<|.rs fun k10=>.bi Y<|.z<|.seq ?_
  refine .cond (t:=decide ((j:Int) < (p.table.length:Int))) Y (fun c0=>?_) (fun c0=>?_)
  ·have c0:=of_decide_eq_true c0
   refine .skip<|.seq<|.block<|.seq<|.rs fun k11=>.g (fun _ τ=>⟨_,.indexAddr (.no Y) Y (j) t60 Y t98 Y Y Y (.d _ _) Y Y Y (map_get (by omega)) Y Y τ⟩)<|.lda t98 Y (.d _) Y<|.g (fun _ τ=>⟨_,.alloc (.no Y) Y z98 Y Y Y τ⟩)<|.g (fun _ τ=>⟨_,.store (.no Y) Y t98 Y Y Y Y Y Y Y Y Y τ⟩) ?_
   refine .z ?_
   refine .regD (X:=Nat × Nat) (by kernel_rfl) (fun ζ=>.of [(2,.one (.ptr [2] (k3+1) 0)),(3,.one (.ptr [3] (k4+1+1+1+1) 0)),(11,.one (.d (.sl false 98 3 (List.map Env.c98 (p.table))))),(12,.one (.d (.v (.int .i64 ((p.table.length:Int)))))),(13,.one (.d (.v (.int .i64 ((j:Int))))))] [([2],(k3+1,k3+1,.box [.d (.v (.slice none 0 0)),.d (.v (.slice none 0 0))])),([3],(k4+1+1+1+1,ζ.1,.box [.ref [8,0] (k4+1+1),.ref [22] (ζ.2)])),([8,0],(k4+1+1,k4+1+1,.row 115 2 (List.map Entry.c (p.token)))),([22],(ζ.2,ζ.2,.row 98 3 (List.map Env.co98 (p.table.take j++[(p.table.getD j default)]))))]) [⟨[3],some 17,[],[]⟩,⟨[17],some 18,[[3]],[]⟩,⟨[5],some 19,[[5]],[]⟩,⟨[19],some 20,[],[[20,1],[20,2]]⟩,⟨[20],some 21,[[20,1],[20,2]],[[20,1],[20,2],[21]]⟩,⟨[18,21],some 22,[[22],[21]],[[21],[22]]⟩,⟨[3],some 23,[],[]⟩,⟨[23,22],none,[[3]],[[3]]⟩] (by kernel_rfl) (fun k12=>?_) ?_
   ·skip
    refine .fieldAddrP (.no Y) Y t62 Y Y t60 Y Y Y Y<|.load (.no Y) Y t60 Y Y (.ptr _ _ _ _ _ Y) Y Y Y Y<|.load (.no Y) Y t98 Y Y (.ptr _ _ _ _ _ Y) Y Y Y Y<|.call (.no Y) Y [] [] (c_own (p.table.getD j default) (by first | exact Nat.le_trans hb.1 (by decide) | exact hb.2.2 _ (getD_mem (by omega)))) Y Y Y Y Y (.dd (.dd (.dd .nil))) Y Y (fun h=>absurd Y h) (.own [20,0] (.own [20,1] (.own [20,2] .nil))) (.nil) Y Y Y (by simp) Y Y Y ?_
    refine .buildSlice (.no Y) Y (els:=[[.v (.bool ((p.table.getD j default).live)),.sl true 119 2 (List.map Iv.c ((p.table.getD j default).ints)),.sl true 119 2 (List.map Iv.c ((p.table.getD j default).arrs))]]) t60 Y z98 Y Y Y Y Y Y Y Y (by simp [i98]) (.cons _ _ _ _ _ _ (.d _) (.cons _ _ _ _ _ _ (.ref _ _ _ _ _ _ Y) (.cons _ _ _ _ _ _ (.ref _ _ _ _ _ _ Y) .nil))) Y Y Y<|.append (.no Y) Y (l3:=List.map Env.co98 (p.table.take j++[(p.table.getD j default)])) t60 Y z98 Y Y Y Y Y Y Y Y (.ref _ _ _ _ Y) (.take _ _ _ _ _ Y) Y (by (have h8:=hb.1; have h9:=hb.2.1; simp [i98,i115]; omega)) (map_snoc _ _ _) Y Y<|.fieldAddrP (.no Y) Y t62 Y Y t60 Y Y Y Y<|.store (.no Y) Y t60 Y Y Y Y Y Y Y Y Y ?_
    exact .fin (k12+1+1+1+1+1+1+1,k12+1+1+1+1+1) (.of (.r Y) (.r Y))
   rintro ⟨g13,g14⟩
   refine .rs fun k15=>.bi Y<|.mv Y<|.z ?_
   exact .here ((j+1),g13,g14,g14) (.of (.cons Y (.cons Y (.cons Y (.cons Y (.cons (svI (show (IntKind.wrap .i64 ((j:Int)+1))=(((j+1):Int)) by first | rfl | omega | exact wrap_le (by omega) (by omega) | (rw [wrap_le (by omega) (by omega)]; omega))) .nil))))) (.cons Y (.cons Y (.cons Y (.cons (rowE (show List.map Env.co98 (p.table.take j++[(p.table.getD j default)])=List.map Env.co98 (p.table.take (j+1)) by first | with_reducible rfl | exact congrArg _ (take_step9 (by omega)) | rfl)) .nil))))) ⟨(show (j+1)≤p.table.length by omega),(show p.table.length - (j+1) < p.table.length - j by omega)⟩
  ·have c0:=of_decide_eq_false c0
   refine .exit<|.seq<|.rs fun k16=>.lda t62 Y (.ptr _ _ _ _ _ Y) Y<|.g (fun _ τ=>⟨_,.store (.no Y) Y t62 Y Y Y Y Y Y Y Y Y τ⟩)<|.z<|.ret ?_
   have e17:(p.table.take j)=(p.table):=by first | rfl | exact List.take_of_length_le (by omega)
   exact fin1 (.inr Y) [] [([8,0],(k4+1+1,k4+1+1,.row 115 2 (List.map Entry.c (p.token)))),([22],(q8,q7,.row 98 3 (List.map Env.co98 (p.table))))] (.cell (cells:=[.ref [8,0] (k4+1+1),.ref [22] (q8)]) Y Y t62 Y Y .nil) (.cons (.ref (.head _)) (.cons (.ref (.tail _ (.head _))) .nil)) Y Y (.cons Y (.cons (rowE (congrArg (List.map Env.co98) e17)) .nil))
theorem c_l9Copy (p:Part) (hb:Part.small p):Trip Tryz.prog 91 [(true,2)] (Part.c62 p) [(true,2)] [.sl true 115 2 (List.map Entry.c (p.token)),.sl true 98 3 (List.map Env.co98 (p.table))] []:=by
 refine Trip.of Tryz.func91 (by decide) (c:=_) Y Y (Nat.le_of_ble_eq_true Y) Y (AftOk.nil _)<|.sla (t:=0) 0 Y Y fun hs1l=>.sla (t:=0) 1 Y Y fun hs2l=>.seq<|.rs fun k3=>.g (fun _ τ=>⟨_,.box (.no Y) Y Y Y Y Y τ⟩)<|.g (fun _ τ=>⟨_,.alloc (.no Y) Y z62 Y Y Y τ⟩)<|.z<|.seq ?_
 refine .rs fun k4=>.g (fun _ τ=>⟨_,.buildSlice (.no Y) Y (els:=[]) t49 Y z115 Y Y Y Y Y Y Y Y (by simp [i115]) .nil Y Y Y τ⟩)<|.fp t62 t49 Y<|.ld t49 Y (.ptr _ _ _ _ _ Y) Y<|.g (fun _ τ=>⟨_,.append (.no Y) Y (l3:=List.map Entry.c (p.token)) t49 Y z115 Y Y Y Y Y Y Y Y (.ref _ _ _ _ Y) (.ro _ _) Y (by (have h8:=hb.1; have h9:=hb.2.1; simp [i98,i115]; omega)) (List.nil_append _) Y Y τ⟩)<|.g (fun _ τ=>⟨_,.build (.no Y) Y z62 Y p62 Y Y Y Y τ⟩)<|.g (fun _ τ=>⟨_,.alloc (.no Y) Y z62 Y Y Y τ⟩)<|.g (fun _ τ=>⟨_,.store (.no Y) Y t62 Y Y Y Y Y Y Y Y Y τ⟩)<|.z ?_
 refine .seq<|.seq<|.rs fun k5=>.as Y<|.z<|.block ?_
 refine .loop (X:=Nat × Nat × Nat × Nat) (fun ζ=>.of [(1,.one (.ptr [1] (k3) 0)),(2,.one (.ptr [2] (k3+1) 0)),(3,.one (.ptr [3] (k4+1+1+1+1+1) 0)),(4,.one (.d (.v (.int .i64 ((ζ.1:Int))))))] [([1],(k3,k3,.box [.d (.sl false 115 2 (List.map Entry.c (p.token))),.d (.sl false 98 3 (List.map Env.c98 (p.table)))])),([2],(k3+1,k3+1,.box [.d (.v (.slice none 0 0)),.d (.v (.slice none 0 0))])),([3],(k4+1+1+1+1+1,ζ.2.1,.box [.ref [5] (k4+1+1+1),.ref [26] (ζ.2.2.2)])),([5],(k4+1+1+1,k4+1+1+1,.row 115 2 (List.map Entry.c (p.token)))),([26],(ζ.2.2.2,ζ.2.2.1,.row 98 3 (List.map Env.co98 (p.table.take ζ.1))))]) (fun ζ=>ζ.1≤p.table.length) (fun ζ=>p.table.length - ζ.1) ?_ ?_
 ·skip
  refine .nilBox [3] 1 [26] 98 3 Y Y (by decide) fun k9=>?_
  exact .here (0,k9,k9,k9) (.of (.cons Y (.cons Y (.cons Y (.cons (svI (show (0)=((0:Int)) by first | rfl | omega | exact wrap_le (by omega) (by omega) | (rw [wrap_le (by omega) (by omega)]; omega))) .nil)))) (.cons Y (.cons Y (.cons Y (.cons Y (.cons (rowE (show []=List.map Env.co98 (p.table.take 0) by first | with_reducible rfl | exact congrArg _ (take_step9 (by omega)) | rfl)) .nil)))))) (show 0≤p.table.length by omega)
 ·rintro ⟨j,q6,q7,q8⟩ hI
  have hI:j≤p.table.length:=hI
  have h7:=hb.2.1
  dsimp only
  refine .seq<|.seq<|.rs fun k10=>.mv Y<|.fp t62 t60 Y<|.ld t60 Y (.ptr _ _ _ _ _ Y) Y<|.g (fun _ τ=>⟨_,.len (.no Y) Y (z:=(p.table.length:Int)) t60 Y Y Y (.d _ _) (map_len _ _) Y τ⟩)<|.bi Y<|.z ?_
  refine .cond (t:=decide ((j:Int) < (p.table.length:Int))) Y (fun c0=>?_) (fun c0=>?_)
  ·have c0:=of_decide_eq_true c0
   refine .skip<|.seq<|.block ?_
   refine .regD (X:=Nat × Nat) (by kernel_rfl) (fun ζ=>.of [(1,.one (.ptr [1] (k3) 0)),(2,.one (.ptr [2] (k3+1) 0)),(3,.one (.ptr [3] (k4+1+1+1+1+1) 0)),(4,.one (.d (.v (.int .i64 ((j:Int))))))] [([1],(k3,k3,.box [.d (.sl false 115 2 (List.map Entry.c (p.token))),.d (.sl false 98 3 (List.map Env.c98 (p.table)))])),([2],(k3+1,k3+1,.box [.d (.v (.slice none 0 0)),.d (.v (.slice none 0 0))])),([3],(k4+1+1+1+1+1,ζ.1,.box [.ref [5] (k4+1+1+1),.ref [26] (ζ.2)])),([5],(k4+1+1+1,k4+1+1+1,.row 115 2 (List.map Entry.c (p.token)))),([26],(ζ.2,ζ.2,.row 98 3 (List.map Env.co98 (p.table.take j++[(p.table.getD j default)]))))]) [⟨[3],some 17,[],[]⟩,⟨[17],some 18,[[3]],[]⟩,⟨[1],some 19,[],[]⟩,⟨[19],some 20,[[1]],[]⟩,⟨[4],some 21,[],[]⟩,⟨[20,21],some 22,[],[]⟩,⟨[22],some 23,[],[]⟩,⟨[23],some 24,[],[[24,1],[24,2]]⟩,⟨[24],some 25,[[24,1],[24,2]],[[24,1],[24,2],[25]]⟩,⟨[18,25],some 26,[[26],[25]],[[25],[26]]⟩,⟨[3],some 27,[],[]⟩,⟨[27,26],none,[[3]],[[3]]⟩] (by kernel_rfl) (fun k11=>?_) ?_
   ·skip
    refine .fieldAddrP (.no Y) Y t62 Y Y t60 Y Y Y Y<|.load (.no Y) Y t60 Y Y (.ptr _ _ _ _ _ Y) Y Y Y Y<|.fieldAddrP (.no Y) Y t62 Y Y t60 Y Y Y Y<|.load (.no Y) Y t60 Y Y (.ptr _ _ _ _ _ Y) Y Y Y Y<|.move (.no Y) Y Y Y Y<|.indexAddr (.no Y) Y (j) t60 Y t98 Y Y Y (.d _ _) Y Y Y (map_get (by omega)) Y Y<|.load (.no Y) Y t98 Y Y (.d _) Y Y Y Y<|.call (.no Y) Y [] [] (c_l6Copy (p.table.getD j default) (by first | exact Nat.le_trans hb.1 (by decide) | exact hb.2.2 _ (getD_mem (by omega)))) Y Y Y Y Y (.dd (.dd (.dd .nil))) Y Y (fun h=>absurd Y h) (.own [24,0] (.own [24,1] (.own [24,2] .nil))) (.nil) Y Y Y (by simp) Y Y Y ?_
    refine .buildSlice (.no Y) Y (els:=[[.v (.bool ((p.table.getD j default).live)),.sl true 119 2 (List.map Iv.c ((p.table.getD j default).ints)),.sl true 119 2 (List.map Iv.c ((p.table.getD j default).arrs))]]) t60 Y z98 Y Y Y Y Y Y Y Y (by simp [i98]) (.cons _ _ _ _ _ _ (.d _) (.cons _ _ _ _ _ _ (.ref _ _ _ _ _ _ Y) (.cons _ _ _ _ _ _ (.ref _ _ _ _ _ _ Y) .nil))) Y Y Y<|.append (.no Y) Y (l3:=List.map Env.co98 (p.table.take j++[(p.table.getD j default)])) t60 Y z98 Y Y Y Y Y Y Y Y (.ref _ _ _ _ Y) (.take _ _ _ _ _ Y) Y (by (have h8:=hb.1; have h9:=hb.2.1; simp [i98,i115]; omega)) (map_snoc _ _ _) Y Y<|.fieldAddrP (.no Y) Y t62 Y Y t60 Y Y Y Y<|.store (.no Y) Y t60 Y Y Y Y Y Y Y Y Y ?_
    exact .fin (k11+1+1+1+1+1+1+1+1+1+1+1,k11+1+1+1+1+1+1+1+1+1) (.of (.r Y) (.r Y))
   rintro ⟨g12,g13⟩
   refine .rs fun k14=>.mv Y<|.bi Y<|.as Y<|.z ?_
   exact .here ((j+1),g12,g13,g13) (.of (.cons Y (.cons Y (.cons Y (.cons (svI (show (IntKind.wrap .i64 ((j:Int)+1))=(((j+1):Int)) by first | rfl | omega | exact wrap_le (by omega) (by omega) | (rw [wrap_le (by omega) (by omega)]; omega))) .nil)))) (.cons Y (.cons Y (.cons Y (.cons Y (.cons (rowE (show List.map Env.co98 (p.table.take j++[(p.table.getD j default)])=List.map Env.co98 (p.table.take (j+1)) by first | with_reducible rfl | exact congrArg _ (take_step9 (by omega)) | rfl)) .nil)))))) ⟨(show (j+1)≤p.table.length by omega),(show p.table.length - (j+1) < p.table.length - j by omega)⟩
  ·have c0:=of_decide_eq_false c0
   refine .exit<|.seq<|.rs fun k15=>.lda t62 Y (.ptr _ _ _ _ _ Y) Y<|.g (fun _ τ=>⟨_,.store (.no Y) Y t62 Y Y Y Y Y Y Y Y Y τ⟩)<|.z<|.ret ?_
   have e16:(p.table.take j)=(p.table):=by first | rfl | exact List.take_of_length_le (by omega)
   exact fin1 (.inr Y) [] [([5],(k4+1+1+1,k4+1+1+1,.row 115 2 (List.map Entry.c (p.token)))),([26],(q8,q7,.row 98 3 (List.map Env.co98 (p.table))))] (.cell (cells:=[.ref [5] (k4+1+1+1),.ref [26] (q8)]) Y Y t62 Y Y .nil) (.cons (.ref (.head _)) (.cons (.ref (.tail _ (.head _))) .nil)) Y Y (.cons Y (.cons (rowE (congrArg (List.map Env.co98) e16)) .nil))
theorem c_ownParts (l:List Part) (hx:∀ x∈l,Part.small x) (hl:l.length≤1048576):Trip Tryz.prog 96 [(false,1)] ([.sl false 62 2 (List.map Part.c62 (l))]) [(false,1)] [.sl true 62 2 (List.map Part.co62 (l))] []:=by
 refine Trip.of Tryz.func96 (by decide) (c:=_) Y Y (Nat.le_of_ble_eq_true Y) Y (AftOk.nil _)<|.sl (t:=0) Y fun hs1l=>.seq<|.rs fun k2=>.as Y<|.z<|.seq<|.rs fun k3=>.as Y ?_
 refine .z<|.seq<|.seq<|.rs fun k4=>.mv Y<|.g (fun _ τ=>⟨_,.len (.no Y) Y (z:=(l.length:Int)) t29 Y Y Y (.d _ _) (map_len _ _) Y τ⟩)<|.mv Y<|.z<|.block ?_
 refine .loop (X:=Nat × Nat × Nat) (fun ζ=>.of [(3,.one (.ref [16] (ζ.2.1))),(6,.one (.d (.sl false 62 2 (List.map Part.c62 (l))))),(7,.one (.d (.v (.int .i64 ((l.length:Int)))))),(8,.one (.d (.v (.int .i64 ((ζ.1:Int))))))] [([16],(ζ.2.1,ζ.2.2,.row 62 2 (List.map Part.co62 (l.take ζ.1))))]) (fun ζ=>ζ.1≤l.length) (fun ζ=>l.length - ζ.1) ?_ ?_
 ·skip
  refine .nilRow 3 [16] 62 2 Y fun k7=>?_
  exact .here (0,k7,k7) (.of (.cons Y (.cons Y (.cons Y (.cons (svI (show (0)=((0:Int)) by first | rfl | omega | exact wrap_le (by omega) (by omega) | (rw [wrap_le (by omega) (by omega)]; omega))) .nil)))) (.cons (rowE (show []=List.map Part.co62 (l.take 0) by first | with_reducible rfl | rfl | exact congrArg _ (take_step9 (by omega)))) .nil)) (show 0≤l.length by omega)
 ·rintro ⟨j,q5,q6⟩ hI
  have hI:j≤l.length:=hI
  dsimp only
  refine .seq<|.rs fun k8=>.bi Y<|.z<|.seq ?_
  refine .cond (t:=decide ((j:Int) < (l.length:Int))) Y (fun c0=>?_) (fun c0=>?_)
  ·have c0:=of_decide_eq_true c0
   refine .skip<|.seq<|.block<|.seq<|.rs fun k9=>.g (fun _ τ=>⟨_,.indexAddr (.no Y) Y (j) t29 Y t62 Y Y Y (.d _ _) Y Y Y (map_get (by omega)) Y Y τ⟩)<|.lda t62 Y (.d _) Y<|.g (fun _ τ=>⟨_,.alloc (.no Y) Y z62 Y Y Y τ⟩)<|.g (fun _ τ=>⟨_,.store (.no Y) Y t62 Y Y Y Y Y Y Y Y Y τ⟩) ?_
   refine .z<|.rs fun k10=>.mv Y<|.lda t62 Y (.ptr _ _ _ _ _ Y) Y<|.c0 (c_pown (l.getD j default) (by exact hx _ (getD_mem (by omega)))) Y (.dd (.dd .nil)) (.own [14,0] (.own [14,1] .nil)) Y<|.g (fun _ τ=>⟨_,.buildSlice (.no Y) Y (els:=[[.sl true 115 2 (List.map Entry.c ((l.getD j default).token)),.sl true 98 3 (List.map Env.co98 ((l.getD j default).table))]]) t29 Y z62 Y Y Y Y Y Y Y Y (by simp [i62]) (.cons _ _ _ _ _ _ (.ref _ _ _ _ _ _ Y) (.cons _ _ _ _ _ _ (.ref _ _ _ _ _ _ Y) .nil)) Y Y Y τ⟩)<|.g (fun _ τ=>⟨_,.append (.no Y) Y (l3:=List.map Part.co62 (l.take j++[(l.getD j default)])) t29 Y z62 Y Y Y Y Y Y Y Y (.ref _ _ _ _ Y) (.take _ _ _ _ _ Y) Y (by simp [i62]; omega) (map_snoc _ _ _) Y Y τ⟩)<|.as Y<|.z ?_
   refine .rs fun k11=>.bi Y<|.mv Y<|.z ?_
   exact .here ((j+1),(k10+1+1+1+1),(k10+1+1+1+1)) (.of (.cons (by show SV.one (.ref [16] (k10+1+1+1+1))=SV.one (.ref [16] ((k10+1+1+1+1))); first | rfl | simp_all) (.cons Y (.cons Y (.cons (svI (show (IntKind.wrap .i64 ((j:Int)+1))=(((j+1):Int)) by first | rfl | omega | exact wrap_le (by omega) (by omega) | (rw [wrap_le (by omega) (by omega)]; omega))) .nil)))) (.cons (rowE (show List.map Part.co62 (l.take j++[(l.getD j default)])=List.map Part.co62 (l.take (j+1)) by first | with_reducible rfl | rfl | exact congrArg _ (take_step9 (by omega)))) .nil)) ⟨(show (j+1)≤l.length by omega),(show l.length - (j+1) < l.length - j by omega)⟩
  ·have c0:=of_decide_eq_false c0
   refine .exit<|.seq<|.rs fun k12=>.mv Y<|.as Y<|.z<|.ret ?_
   have e13:(l.take j)=(l):=by exact List.take_of_length_le (by omega)
   exact fin1 (.inr Y) [] [([16],(q5,q6,.row 62 2 (List.map Part.co62 (l))))] (.one Y .nil) (.cons (.ref (.head _)) .nil) Y Y (.cons (rowE (congrArg (List.map Part.co62) e13)) .nil)
theorem c_l9Fresh (l:List Part) (hx:∀ x∈l,Part.small x) (hl:l.length≤1048576):Trip Tryz.prog 41 [(false,1)] ([.sl false 62 2 (List.map Part.c62 (l))]) [(false,1)] [.sl true 62 2 (List.map Part.co62 (fewV l))] []:=by
 refine Trip.of Tryz.func41 (by decide) (c:=_) Y Y (Nat.le_of_ble_eq_true Y) Y (AftOk.nil _)<|.sl (t:=0) Y fun hs1l=>.seq<|.rs fun k2=>.as Y<|.z<|.seq<|.rs fun k3=>.g (fun _ τ=>⟨_,.buildSlice (.no Y) Y (els:=[]) t29 Y z62 Y Y Y Y Y Y Y Y (by simp [i62]) .nil Y Y Y τ⟩) ?_
 refine .as Y<|.z<|.seq<|.seq<|.rs fun k4=>.as Y<|.z<|.block ?_
 refine .loop (X:=Nat × Nat × Nat) (fun ζ=>.of [(0,.one (.d (.sl false 62 2 (List.map Part.c62 (l))))),(3,.one (.ref [5] (ζ.2.1))),(4,.one (.d (.v (.int .i64 ((ζ.1:Int))))))] [([5],(ζ.2.1,ζ.2.2,.row 62 2 (List.map Part.co62 (l.take ζ.1))))]) (fun ζ=>ζ.1≤l.length∧((l.length:Int) > 100→ζ.1=0)) (fun ζ=>l.length - ζ.1) ?_ ?_
 ·skip
  exact .here (0,k3,k3) (.of (.cons Y (.cons Y (.cons (svI (show (0)=((0:Int)) by first | rfl | omega | exact wrap_le (by omega) (by omega) | (rw [wrap_le (by omega) (by omega)]; omega))) .nil))) (.cons (rowE (show []=List.map Part.co62 (l.take 0) by first | with_reducible rfl | rfl | exact congrArg _ (take_step9 (by omega)))) .nil)) (show 0≤l.length∧((l.length:Int) > 100→0=0) by exact ⟨by omega,fun _=>rfl⟩)
 ·rintro ⟨j,q5,q6⟩ hI
  have hI:j≤l.length∧((l.length:Int) > 100→j=0):=hI
  dsimp only
  refine .seq<|.seq ?_
  refine .reg (X:=Unit) (fun ζ=>.of [(0,.one (.d (.sl false 62 2 (List.map Part.c62 (l))))),(3,.one (.ref [5] (q5))),(4,.one (.d (.v (.int .i64 ((j:Int)))))),(14,.one (.d (.v (.bool ((decide ((j:Int) < (l.length:Int))&&decide ((l.length:Int)≤100)))))))] [([5],(q5,q6,.row 62 2 (List.map Part.co62 (l.take j))))]) [⟨[4],some 6,[],[]⟩,⟨[0],some 7,[],[]⟩,⟨[7],some 8,[],[]⟩,⟨[6,8],some 9,[],[]⟩,⟨[9],some 10,[],[]⟩,⟨[10,0],some 11,[],[]⟩,⟨[10,11],some 12,[],[]⟩,⟨[10,12],some 13,[],[]⟩,⟨[10,13],some 14,[],[]⟩] (fun k7=>?_) ?_
  ·skip
   refine .move (.no Y) Y Y Y Y<|.move (.no Y) Y Y Y Y<|.len (.no Y) Y (z:=(l.length:Int)) t29 Y Y Y (.d _ _) (map_len _ _) Y<|.bin (.no Y) Y Y Y Y Y Y<|.moveB (.no Y) Y Y Y Y fun b8 g3_4=>?_
   cases b8
   ·skip
    refine .off Y Y Y Y Y Y Y<|.off Y Y Y Y Y Y Y<|.off Y Y Y Y Y Y Y<|.pick (.no Y) Y Y Y Y Y ?_
    exact .fin () (.of (.cons Y (.cons Y (.cons Y (.cons (svB (show (false)=((decide ((j:Int) < (l.length:Int))&&decide ((l.length:Int)≤100))) by first | (simp only [g3_4,Bool.true_or,Bool.false_or,Bool.true_and,Bool.false_and,Bool.not_true,Bool.not_false]; done) | (simp [g3_4]; done) | (exfalso; simp_all; done))) .nil)))) (.r Y))
   ·skip
    refine .move (.on Y Y Y Y Y) Y Y Y Y<|.len (.on Y Y Y Y Y) Y (z:=(l.length:Int)) t29 Y Y Y (.d _ _) (map_len _ _) Y<|.bin (.on Y Y Y Y Y) Y Y Y Y Y Y<|.pick (.no Y) Y Y Y Y Y ?_
    exact .fin () (.of (.cons Y (.cons Y (.cons Y (.cons (svB (show (decide ((l.length:Int)≤100))=((decide ((j:Int) < (l.length:Int))&&decide ((l.length:Int)≤100))) by first | (simp only [g3_4,Bool.true_or,Bool.false_or,Bool.true_and,Bool.false_and,Bool.not_true,Bool.not_false]; done) | (simp [g3_4]; done) | (exfalso; simp_all; done))) .nil)))) (.r Y))
  intro _
  refine .cond (t:=(decide ((j:Int) < (l.length:Int))&&decide ((l.length:Int)≤100))) Y (fun c0=>?_) (fun c0=>?_)
  ·have c0:=(aT dT dT) c0
   refine .skip<|.seq<|.block<|.rs fun k9=>.mv Y<|.mv Y<|.mv Y<|.g (fun _ τ=>⟨_,.indexAddr (.no Y) Y (j) t29 Y t62 Y Y Y (.d _ _) Y Y Y (map_get (by omega)) Y Y τ⟩)<|.lda t62 Y (.d _) Y ?_
   refine .c0 (c_l9Copy (l.getD j default) (by exact hx _ (getD_mem (by omega)))) Y (.dd (.dd .nil)) (.own [22,0] (.own [22,1] .nil)) Y<|.g (fun _ τ=>⟨_,.buildSlice (.no Y) Y (els:=[[.sl true 115 2 (List.map Entry.c ((l.getD j default).token)),.sl true 98 3 (List.map Env.co98 ((l.getD j default).table))]]) t29 Y z62 Y Y Y Y Y Y Y Y (by simp [i62]) (.cons _ _ _ _ _ _ (.ref _ _ _ _ _ _ Y) (.cons _ _ _ _ _ _ (.ref _ _ _ _ _ _ Y) .nil)) Y Y Y τ⟩)<|.g (fun _ τ=>⟨_,.append (.no Y) Y (l3:=List.map Part.co62 (l.take j++[(l.getD j default)])) t29 Y z62 Y Y Y Y Y Y Y Y (.ref _ _ _ _ Y) (.take _ _ _ _ _ Y) Y (by simp [i62]; omega) (map_snoc _ _ _) Y Y τ⟩)<|.as Y<|.z<|.rs fun k10=>.mv Y<|.bi Y<|.as Y ?_
   refine .z ?_
   exact .here ((j+1),(k9+1+1+1+1+1+1+1),(k9+1+1+1+1+1+1+1)) (.of (.cons Y (.cons (by show SV.one (.ref [5] (k9+1+1+1+1+1+1+1))=SV.one (.ref [5] ((k9+1+1+1+1+1+1+1))); first | rfl | simp_all) (.cons (svI (show (IntKind.wrap .i64 ((j:Int)+1))=(((j+1):Int)) by first | rfl | omega | exact wrap_le (by omega) (by omega) | (rw [wrap_le (by omega) (by omega)]; omega))) .nil))) (.cons (rowE (show List.map Part.co62 (l.take j++[(l.getD j default)])=List.map Part.co62 (l.take (j+1)) by first | with_reducible rfl | rfl | exact congrArg _ (take_step9 (by omega)))) .nil)) ⟨(show (j+1)≤l.length∧((l.length:Int) > 100→(j+1)=0) by omega),(show l.length - (j+1) < l.length - j by omega)⟩
  ·have c0:=(aF dF dF) c0
   refine .exit<|.seq<|.rs fun k11=>.mv Y<|.as Y<|.z<|.ret ?_
   have e12:(l.take j)=(fewV l):=by first | exact few_end hI c0 | exact few_end hI (by omega)
   exact fin1 (.inr Y) [] [([5],(q5,q6,.row 62 2 (List.map Part.co62 (fewV l))))] (.one Y .nil) (.cons (.ref (.head _)) .nil) Y Y (.cons (rowE (congrArg (List.map Part.co62) e12)) .nil)
end Go.Proofs

namespace Go.Proofs
open Go Go.Proofs Go.Ev

theorem c_l9Put (l:List Part) (p:Part) (w:Bool) (s:List Int) (hl:l.length≤1048576) (hk:∀ i,i < l.length→tokOk (l.getD i default).token=true) (ht:tokOk p.token=true) (hp:∀ i,i < l.length→PairOk (l.getD i default).table p.table) (hs:s.length≤1048576):Trip Tryz.prog 92 [(false,1),(true,2),(false,1),(false,1)] ([.sl false 62 2 (List.map Part.c62 (l))]++Part.c62 p++[.v (.bool (w))]++[.sl false 2 1 (List.map i64c (s))]) [(false,1)] [.sl true 62 2 (List.map Part.c62 (putV (putF w s) l p))] []:=by
 refine Trip.of Tryz.func92 (by decide) (c:=_) Y Y (Nat.le_of_ble_eq_true Y) Y (AftOk.nil _)<|.sl (t:=0) Y fun hs1l=>.sla (t:=1) 0 Y Y fun hs2l=>.sla (t:=1) 1 Y Y fun hs3l=>.sl (t:=3) Y fun hs4l=>.seq<|.rs fun k5=>.g (fun _ τ=>⟨_,.box (.no Y) Y Y Y Y Y τ⟩)<|.as Y ?_
 refine .z<|.seq<|.rs fun k6=>.g (fun _ τ=>⟨_,.buildSlice (.no Y) Y (els:=[]) t29 Y z62 Y Y Y Y Y Y Y Y (by simp [i62]) .nil Y Y Y τ⟩)<|.as Y<|.z<|.seq<|.rs fun k7=>.as Y ?_
 refine .z<|.seq<|.seq<|.rs fun k8=>.as Y<|.z<|.block ?_
 refine .loop (X:=Nat × Nat × Nat) (fun ζ=>.of [(0,.one (.d (.sl false 62 2 (List.map Part.c62 (l))))),(2,.one (.d (.v (.bool (w))))),(3,.one (.d (.sl false 2 1 (List.map i64c (s))))),(5,.one (.ptr [5] (k5) 0)),(9,.one (.ref [14] (ζ.2.1))),(10,.one (.d (.v (.bool ((putS (putF w s) l p ζ.1).2))))),(11,.one (.d (.v (.int .i64 ((ζ.1:Int))))))] [([5],(k5,k5,.box [.d (.sl false 115 2 (List.map Entry.c (p.token))),.d (.sl false 98 3 (List.map Env.c98 (p.table)))])),([14],(ζ.2.1,ζ.2.2,.row 62 2 (List.map Part.c62 ((putS (putF w s) l p ζ.1).1))))]) (fun ζ=>ζ.1≤l.length) (fun ζ=>l.length - ζ.1) ?_ ?_
 ·skip
  exact .here (0,k6,k6) (.of (.cons Y (.cons Y (.cons Y (.cons Y (.cons Y (.cons (svB (show (false)=((putS (putF w s) l p 0).2) by first | rfl | omega | exact wrap_le (by omega) (by omega) | (exfalso; omega) | exact (put_a c1).2 | exact (put_bT c1 c2 c3).2 | exact (put_bF c1 c2 c3).2 | exact (put_c c1 c2).2)) (.cons (svI (show (0)=((0:Int)) by first | rfl | omega | exact wrap_le (by omega) (by omega) | (exfalso; omega) | exact (put_a c1).2 | exact (put_bT c1 c2 c3).2 | exact (put_bF c1 c2 c3).2 | exact (put_c c1 c2).2)) .nil))))))) (.cons Y (.cons (rowE (show []=List.map Part.c62 ((putS (putF w s) l p 0).1) by first | with_reducible rfl | rfl | (exfalso; omega) | exact congrArg _ (put_a c1).1 | exact congrArg _ (put_bT c1 c2 c3).1 | exact congrArg _ (put_bF c1 c2 c3).1 | exact congrArg _ (put_c c1 c2).1)) .nil))) (show 0≤l.length by omega)
 ·rintro ⟨j,q9,q10⟩ hI
  have hI:j≤l.length:=hI
  dsimp only
  refine .seq<|.seq<|.rs fun k11=>.mv Y<|.mv Y<|.g (fun _ τ=>⟨_,.len (.no Y) Y (z:=(l.length:Int)) t29 Y Y Y (.d _ _) (map_len _ _) Y τ⟩)<|.bi Y<|.z ?_
  refine .cond (t:=decide ((j:Int) < (l.length:Int))) Y (fun c0=>?_) (fun c0=>?_)
  ·have c0:=of_decide_eq_true c0
   refine .skip<|.seq<|.block<|.seq ?_
   refine .regD (X:=Unit) (by kernel_rfl) (fun ζ=>.of [(0,.one (.d (.sl false 62 2 (List.map Part.c62 (l))))),(2,.one (.d (.v (.bool (w))))),(3,.one (.d (.sl false 2 1 (List.map i64c (s))))),(5,.one (.ptr [5] (k5) 0)),(9,.one (.ref [14] (q9))),(10,.one (.d (.v (.bool ((putS (putF w s) l p j).2))))),(11,.one (.d (.v (.int .i64 ((j:Int)))))),(12,.one (.d (.v (.int .i64 (tokCmp ((l.getD j default).token) p.token)))))] [([5],(k5,k5,.box [.d (.sl false 115 2 (List.map Entry.c (p.token))),.d (.sl false 98 3 (List.map Env.c98 (p.table)))])),([14],(q9,q10,.row 62 2 (List.map Part.c62 ((putS (putF w s) l p j).1))))]) [⟨[0],some 21,[],[]⟩,⟨[11],some 22,[],[]⟩,⟨[21,22],some 23,[],[]⟩,⟨[23],some 24,[],[]⟩,⟨[24],some 25,[],[]⟩,⟨[5],some 26,[],[]⟩,⟨[26],some 27,[[5]],[]⟩,⟨[25,27],some 28,[],[]⟩,⟨[28],some 12,[],[]⟩] (by kernel_rfl) (fun k12=>?_) ?_
   ·skip
    refine .move (.no Y) Y Y Y Y<|.move (.no Y) Y Y Y Y<|.indexAddr (.no Y) Y (j) t29 Y t62 Y Y Y (.d _ _) Y Y Y (map_get (by omega)) Y Y<|.fieldAddr (.no Y) Y t62 Y Y t49 Y Y Y Y [] (by simp) (by intro _ _ _ h; cases h) Y Y<|.load (.no Y) Y t49 Y Y (.d _) Y Y Y Y<|.fieldAddrP (.no Y) Y t62 Y Y t49 Y Y Y Y<|.load (.no Y) Y t49 Y Y (.ptr _ _ _ _ _ Y) Y Y Y Y ?_
    refine .call (.no Y) Y [] [] (c_l9Cmp ((l.getD j default).token) p.token (by first | assumption | exact hk _ (by omega) | exact (hp j (by omega)).1 | exact (hp j (by omega)).2.1 | exact (hp j (by omega)).2.2.1 | exact (hp j (by omega)).2.2.2) (by first | assumption | exact hk _ (by omega) | exact (hp j (by omega)).1 | exact (hp j (by omega)).2.1 | exact (hp j (by omega)).2.2.1 | exact (hp j (by omega)).2.2.2)) Y Y Y Y Y (.dd (.dd .nil)) Y Y (fun h=>absurd Y h) (.own [28,0] .nil) (.nil) Y Y Y (by simp) Y Y Y<|.assign (.no Y) Y Y Y Y ?_
    exact .fin () (.of (.r Y) (.r Y))
   intro _
   refine .seq<|.seq ?_
   refine .reg (X:=Unit) (fun ζ=>.of [(0,.one (.d (.sl false 62 2 (List.map Part.c62 (l))))),(2,.one (.d (.v (.bool (w))))),(3,.one (.d (.sl false 2 1 (List.map i64c (s))))),(5,.one (.ptr [5] (k5) 0)),(9,.one (.ref [14] (q9))),(10,.one (.d (.v (.bool ((putS (putF w s) l p j).2))))),(11,.one (.d (.v (.int .i64 ((j:Int)))))),(12,.one (.d (.v (.int .i64 (tokCmp ((l.getD j default).token) p.token))))),(34,.one (.d (.v (.bool ((decide ((tokCmp ((l.getD j default).token) p.token) > 0)&&!((putS (putF w s) l p j).2)))))))] [([5],(k5,k5,.box [.d (.sl false 115 2 (List.map Entry.c (p.token))),.d (.sl false 98 3 (List.map Env.c98 (p.table)))])),([14],(q9,q10,.row 62 2 (List.map Part.c62 ((putS (putF w s) l p j).1))))]) [⟨[12],some 29,[],[]⟩,⟨[29],some 30,[],[]⟩,⟨[30],some 31,[],[]⟩,⟨[31,10],some 32,[],[]⟩,⟨[31,32],some 33,[],[]⟩,⟨[31,33],some 34,[],[]⟩] (fun k13=>?_) ?_
   ·skip
    refine .move (.no Y) Y Y Y Y<|.bin (.no Y) Y Y Y Y Y Y<|.moveB (.no Y) Y Y Y Y fun b14 g7_2=>?_
    cases b14
    ·skip
     refine .off Y Y Y Y Y Y Y<|.off Y Y Y Y Y Y Y<|.pick (.no Y) Y Y Y Y Y ?_
     exact .fin () (.of (.cons Y (.cons Y (.cons Y (.cons Y (.cons Y (.cons Y (.cons Y (.cons Y (.cons (svB (show (false)=((decide ((tokCmp ((l.getD j default).token) p.token) > 0)&&!((putS (putF w s) l p j).2))) by first | (simp only [g7_2,Bool.true_or,Bool.false_or,Bool.true_and,Bool.false_and,Bool.not_true,Bool.not_false]; done) | (simp [g7_2]; done) | (exfalso; simp_all; done))) .nil))))))))) (.r Y))
    ·skip
     refine .move (.on Y Y Y Y Y) Y Y Y Y<|.un (.on Y Y Y Y Y) Y Y Y Y Y<|.pick (.no Y) Y Y Y Y Y ?_
     exact .fin () (.of (.cons Y (.cons Y (.cons Y (.cons Y (.cons Y (.cons Y (.cons Y (.cons Y (.cons (svB (show (!((putS (putF w s) l p j).2))=((decide ((tokCmp ((l.getD j default).token) p.token) > 0)&&!((putS (putF w s) l p j).2))) by first | (simp only [g7_2,Bool.true_or,Bool.false_or,Bool.true_and,Bool.false_and,Bool.not_true,Bool.not_false]; done) | (simp [g7_2]; done) | (exfalso; simp_all; done))) .nil))))))))) (.r Y))
   intro _
   refine .cond (t:=(decide ((tokCmp ((l.getD j default).token) p.token) > 0)&&!((putS (putF w s) l p j).2))) Y (fun c1=>?_) (fun c1=>?_)
   ·have c1:=(aT dT (nT id)) c1
    refine .seq<|.rs fun k15=>.mv Y<|.lda t62 Y (.ptr _ _ _ _ _ Y) Y<|.g (fun _ τ=>⟨_,.buildSlice (.no Y) Y (els:=[[.sl false 115 2 (List.map Entry.c (p.token)),.sl false 98 3 (List.map Env.c98 (p.table))]]) t29 Y z62 Y Y Y Y Y Y Y Y (by simp [i62]) (.cons _ _ _ _ _ _ (.d _) (.cons _ _ _ _ _ _ (.d _) .nil)) Y Y Y τ⟩)<|.g (fun _ τ=>⟨_,.append (.no Y) Y (l3:=List.map Part.c62 ((putS (putF w s) l p j).1++[p])) t29 Y z62 Y Y Y Y Y Y Y Y (.ref _ _ _ _ Y) (.take _ _ _ _ _ Y) Y (by (have h9:=putS_len (f:=putF w s) (l:=l) (p:=p) j; simp [i62]; omega)) (map_snoc _ _ _) Y Y τ⟩)<|.as Y<|.z<|.rs fun k16=>?_
    refine .as Y<|.z<|.seq<|.rs fun k17=>.mv Y<|.mv Y<|.g (fun _ τ=>⟨_,.indexAddr (.no Y) Y (j) t29 Y t62 Y Y Y (.d _ _) Y Y Y (map_get (by omega)) Y Y τ⟩)<|.lda t62 Y (.d _) Y<|.g (fun _ τ=>⟨_,.alloc (.no Y) Y z62 Y Y Y τ⟩) ?_
    refine .g (fun _ τ=>⟨_,.store (.no Y) Y t62 Y Y Y Y Y Y Y Y Y τ⟩)<|.z<|.seq<|.seq<|.rs fun k18=>.mv Y<|.bi Y<|.z ?_
    refine .cond (t:=(tokCmp ((l.getD j default).token) p.token) == 0) Y (fun c2=>?_) (fun c2=>?_)
    ·have c2:=(by simpa using c2:(tokCmp ((l.getD j default).token) p.token)=0)
     refine .seq<|.rs fun k19=>.as Y<|.z<|.seq ?_
     refine .regD (X:=Nat) (by kernel_rfl) (fun ζ=>.of [(0,.one (.d (.sl false 62 2 (List.map Part.c62 (l))))),(2,.one (.d (.v (.bool (w))))),(3,.one (.d (.sl false 2 1 (List.map i64c (s))))),(5,.one (.ptr [5] (k5) 0)),(9,.one (.ref [14] (k15+1+1+1))),(10,.one (.d (.v (.bool (true))))),(11,.one (.d (.v (.int .i64 ((j:Int)))))),(13,.one (.ptr [13] (k17+1+1+1+1) 0))] [([5],(k5,k5,.box [.d (.sl false 115 2 (List.map Entry.c (p.token))),.d (.sl false 98 3 (List.map Env.c98 (p.table)))])),([13],(k17+1+1+1+1,ζ,.box [.d (.sl false 115 2 (List.map Entry.c ((l.getD j default).token))),.d (.sl false 98 3 (List.map Env.c98 (zip2 Env.join ((l.getD j default).table) p.table)))])),([14],(k15+1+1+1,k15+1+1+1,.row 62 2 (List.map Part.c62 ((putS (putF w s) l p j).1++[p]))))]) [⟨[0],some 45,[],[]⟩,⟨[11],some 46,[],[]⟩,⟨[45,46],some 47,[],[]⟩,⟨[47],some 48,[],[]⟩,⟨[48],some 49,[],[]⟩,⟨[5],some 50,[],[]⟩,⟨[50],some 51,[[5]],[]⟩,⟨[49,51],some 52,[],[]⟩,⟨[13],some 53,[],[]⟩,⟨[53,52],none,[[13]],[[13]]⟩] (by kernel_rfl) (fun k20=>?_) ?_
     ·skip
      refine .move (.no Y) Y Y Y Y<|.move (.no Y) Y Y Y Y<|.indexAddr (.no Y) Y (j) t29 Y t62 Y Y Y (.d _ _) Y Y Y (map_get (by omega)) Y Y<|.fieldAddr (.no Y) Y t62 Y Y t60 Y Y Y Y [] (by simp) (by intro _ _ _ h; cases h) Y Y<|.load (.no Y) Y t60 Y Y (.d _) Y Y Y Y<|.fieldAddrP (.no Y) Y t62 Y Y t60 Y Y Y Y<|.load (.no Y) Y t60 Y Y (.ptr _ _ _ _ _ Y) Y Y Y Y ?_
      refine .call (.no Y) Y [] [] (c_l8Join ((l.getD j default).table) p.table (by first | assumption | exact hk _ (by omega) | exact (hp j (by omega)).1 | exact (hp j (by omega)).2.1 | exact (hp j (by omega)).2.2.1 | exact (hp j (by omega)).2.2.2) (by first | assumption | exact hk _ (by omega) | exact (hp j (by omega)).1 | exact (hp j (by omega)).2.1 | exact (hp j (by omega)).2.2.1 | exact (hp j (by omega)).2.2.2) (by first | assumption | exact hk _ (by omega) | exact (hp j (by omega)).1 | exact (hp j (by omega)).2.1 | exact (hp j (by omega)).2.2.1 | exact (hp j (by omega)).2.2.2) (by first | assumption | exact hk _ (by omega) | exact (hp j (by omega)).1 | exact (hp j (by omega)).2.1 | exact (hp j (by omega)).2.2.1 | exact (hp j (by omega)).2.2.2)) Y Y Y Y Y (.dd (.dd .nil)) Y Y (fun h=>absurd Y h) (.frz [52,0] (Frz.of_erase (erase_slo _ _ _ _ _ _ Env.co98_e)) .nil) (.nil) Y Y Y (by simp) Y Y Y ?_
      refine .fieldAddrP (.no Y) Y t62 Y Y t60 Y Y Y Y<|.store (.no Y) Y t60 Y Y Y Y Y Y Y Y Y ?_
      exact .fin (k20+1+1+1+1+1+1+1+1+1) (.of (.r Y) (.r Y))
     intro g21
     refine .seq<|.rs fun k22=>.mv Y<|.z ?_
     refine .cond (t:=w) Y (fun c3=>?_) (fun c3=>?_)
     ·have c3:=c3
      refine .regD (X:=Nat) (by kernel_rfl) (fun ζ=>.of [(0,.one (.d (.sl false 62 2 (List.map Part.c62 (l))))),(2,.one (.d (.v (.bool (w))))),(3,.one (.d (.sl false 2 1 (List.map i64c (s))))),(5,.one (.ptr [5] (k5) 0)),(9,.one (.ref [14] (k15+1+1+1))),(10,.one (.d (.v (.bool (true))))),(11,.one (.d (.v (.int .i64 ((j:Int)))))),(13,.one (.ptr [13] (k17+1+1+1+1) 0))] [([5],(k5,k5,.box [.d (.sl false 115 2 (List.map Entry.c (p.token))),.d (.sl false 98 3 (List.map Env.c98 (p.table)))])),([13],(k17+1+1+1+1,ζ,.box [.d (.sl false 115 2 (List.map Entry.c ((l.getD j default).token))),.d (.sl false 98 3 (List.map Env.c98 (zip2 (Env.joinW (fun x y=>Iv.widenOk s x y)) ((l.getD j default).table) p.table)))])),([14],(k15+1+1+1,k15+1+1+1,.row 62 2 (List.map Part.c62 ((putS (putF w s) l p j).1++[p]))))]) [⟨[0],some 55,[],[]⟩,⟨[11],some 56,[],[]⟩,⟨[55,56],some 57,[],[]⟩,⟨[57],some 58,[],[]⟩,⟨[58],some 59,[],[]⟩,⟨[5],some 60,[],[]⟩,⟨[60],some 61,[[5]],[]⟩,⟨[3],some 62,[],[]⟩,⟨[59,61,62],some 63,[],[]⟩,⟨[13],some 64,[],[]⟩,⟨[64,63],none,[[13]],[[13]]⟩] (by kernel_rfl) (fun k23=>?_) ?_
      ·skip
       refine .move (.no Y) Y Y Y Y<|.move (.no Y) Y Y Y Y<|.indexAddr (.no Y) Y (j) t29 Y t62 Y Y Y (.d _ _) Y Y Y (map_get (by omega)) Y Y<|.fieldAddr (.no Y) Y t62 Y Y t60 Y Y Y Y [] (by simp) (by intro _ _ _ h; cases h) Y Y<|.load (.no Y) Y t60 Y Y (.d _) Y Y Y Y<|.fieldAddrP (.no Y) Y t62 Y Y t60 Y Y Y Y<|.load (.no Y) Y t60 Y Y (.ptr _ _ _ _ _ Y) Y Y Y Y<|.move (.no Y) Y Y Y Y ?_
       refine .call (.no Y) Y [] [] (c_l8Widen ((l.getD j default).table) p.table s (by first | assumption | exact hk _ (by omega) | exact (hp j (by omega)).1 | exact (hp j (by omega)).2.1 | exact (hp j (by omega)).2.2.1 | exact (hp j (by omega)).2.2.2) (by first | assumption | exact hk _ (by omega) | exact (hp j (by omega)).1 | exact (hp j (by omega)).2.1 | exact (hp j (by omega)).2.2.1 | exact (hp j (by omega)).2.2.2) (by first | assumption | exact hk _ (by omega) | exact (hp j (by omega)).1 | exact (hp j (by omega)).2.1 | exact (hp j (by omega)).2.2.1 | exact (hp j (by omega)).2.2.2) (by first | assumption | exact hk _ (by omega) | exact (hp j (by omega)).1 | exact (hp j (by omega)).2.1 | exact (hp j (by omega)).2.2.1 | exact (hp j (by omega)).2.2.2)) Y Y Y Y Y (.dd (.dd (.dd .nil))) Y Y (fun h=>absurd Y h) (.frz [63,0] (Frz.of_erase (erase_slo _ _ _ _ _ _ Env.co98_e)) .nil) (.nil) Y Y Y (by simp) Y Y Y ?_
       refine .fieldAddrP (.no Y) Y t62 Y Y t60 Y Y Y Y<|.store (.no Y) Y t60 Y Y Y Y Y Y Y Y Y ?_
       exact .fin (k23+1+1+1+1+1+1+1+1+1+1) (.of (.r Y) (.r Y))
      intro g24
      refine .rs fun k25=>.mv Y<|.lda t62 Y (.ptr _ _ _ _ _ Y) Y<|.g (fun _ τ=>⟨_,.buildSlice (.no Y) Y (els:=[[.sl false 115 2 (List.map Entry.c ((l.getD j default).token)),.sl false 98 3 (List.map Env.c98 (zip2 (Env.joinW (fun x y=>Iv.widenOk s x y)) ((l.getD j default).table) p.table))]]) t29 Y z62 Y Y Y Y Y Y Y Y (by simp [i62]) (.cons _ _ _ _ _ _ (.d _) (.cons _ _ _ _ _ _ (.d _) .nil)) Y Y Y τ⟩)<|.g (fun _ τ=>⟨_,.append (.no Y) Y (l3:=List.map Part.c62 ((putS (putF w s) l p j).1++[p]++[(Part.mk ((l.getD j default).token) (zip2 (Env.joinW (fun x y=>Iv.widenOk s x y)) ((l.getD j default).table) p.table))])) t29 Y z62 Y Y Y Y Y Y Y Y (.ref _ _ _ _ Y) (.take _ _ _ _ _ Y) Y (by (have h9:=putS_len (f:=putF w s) (l:=l) (p:=p) j; simp [i62]; omega)) (map_snoc _ _ _) Y Y τ⟩) ?_
      refine .as Y<|.z<|.rs fun k26=>.mv Y<|.bi Y<|.as Y<|.z ?_
      exact .here ((j+1),(k25+1+1+1),(k25+1+1+1)) (.of (.cons Y (.cons Y (.cons Y (.cons Y (.cons (by show SV.one (.ref [14] (k25+1+1+1))=SV.one (.ref [14] ((k25+1+1+1))); first | rfl | simp_all) (.cons (svB (show (true)=((putS (putF w s) l p (j+1)).2) by first | rfl | omega | exact wrap_le (by omega) (by omega) | (exfalso; omega) | exact (put_a c1).2 | exact (put_bT c1 c2 c3).2 | exact (put_bF c1 c2 c3).2 | exact (put_c c1 c2).2)) (.cons (svI (show (IntKind.wrap .i64 ((j:Int)+1))=(((j+1):Int)) by first | rfl | omega | exact wrap_le (by omega) (by omega) | (exfalso; omega) | exact (put_a c1).2 | exact (put_bT c1 c2 c3).2 | exact (put_bF c1 c2 c3).2 | exact (put_c c1 c2).2)) .nil))))))) (.cons Y (.cons (rowE (show List.map Part.c62 ((putS (putF w s) l p j).1++[p]++[(Part.mk ((l.getD j default).token) (zip2 (Env.joinW (fun x y=>Iv.widenOk s x y)) ((l.getD j default).table) p.table))])=List.map Part.c62 ((putS (putF w s) l p (j+1)).1) by first | with_reducible rfl | rfl | (exfalso; omega) | exact congrArg _ (put_a c1).1 | exact congrArg _ (put_bT c1 c2 c3).1 | exact congrArg _ (put_bF c1 c2 c3).1 | exact congrArg _ (put_c c1 c2).1)) .nil))) ⟨(show (j+1)≤l.length by omega),(show l.length - (j+1) < l.length - j by omega)⟩
     ·have c3:=c3
      refine .skip<|.rs fun k27=>.mv Y<|.lda t62 Y (.ptr _ _ _ _ _ Y) Y<|.g (fun _ τ=>⟨_,.buildSlice (.no Y) Y (els:=[[.sl false 115 2 (List.map Entry.c ((l.getD j default).token)),.sl false 98 3 (List.map Env.c98 (zip2 Env.join ((l.getD j default).table) p.table))]]) t29 Y z62 Y Y Y Y Y Y Y Y (by simp [i62]) (.cons _ _ _ _ _ _ (.d _) (.cons _ _ _ _ _ _ (.d _) .nil)) Y Y Y τ⟩)<|.g (fun _ τ=>⟨_,.append (.no Y) Y (l3:=List.map Part.c62 ((putS (putF w s) l p j).1++[p]++[(Part.mk ((l.getD j default).token) (zip2 Env.join ((l.getD j default).table) p.table))])) t29 Y z62 Y Y Y Y Y Y Y Y (.ref _ _ _ _ Y) (.take _ _ _ _ _ Y) Y (by (have h9:=putS_len (f:=putF w s) (l:=l) (p:=p) j; simp [i62]; omega)) (map_snoc _ _ _) Y Y τ⟩)<|.as Y<|.z<|.rs fun k28=>?_
      refine .mv Y<|.bi Y<|.as Y<|.z ?_
      exact .here ((j+1),(k27+1+1+1),(k27+1+1+1)) (.of (.cons Y (.cons Y (.cons Y (.cons Y (.cons (by show SV.one (.ref [14] (k27+1+1+1))=SV.one (.ref [14] ((k27+1+1+1))); first | rfl | simp_all) (.cons (svB (show (true)=((putS (putF w s) l p (j+1)).2) by first | rfl | omega | exact wrap_le (by omega) (by omega) | (exfalso; omega) | exact (put_a c1).2 | exact (put_bT c1 c2 c3).2 | exact (put_bF c1 c2 c3).2 | exact (put_c c1 c2).2)) (.cons (svI (show (IntKind.wrap .i64 ((j:Int)+1))=(((j+1):Int)) by first | rfl | omega | exact wrap_le (by omega) (by omega) | (exfalso; omega) | exact (put_a c1).2 | exact (put_bT c1 c2 c3).2 | exact (put_bF c1 c2 c3).2 | exact (put_c c1 c2).2)) .nil))))))) (.cons Y (.cons (rowE (show List.map Part.c62 ((putS (putF w s) l p j).1++[p]++[(Part.mk ((l.getD j default).token) (zip2 Env.join ((l.getD j default).table) p.table))])=List.map Part.c62 ((putS (putF w s) l p (j+1)).1) by first | with_reducible rfl | rfl | (exfalso; omega) | exact congrArg _ (put_a c1).1 | exact congrArg _ (put_bT c1 c2 c3).1 | exact congrArg _ (put_bF c1 c2 c3).1 | exact congrArg _ (put_c c1 c2).1)) .nil))) ⟨(show (j+1)≤l.length by omega),(show l.length - (j+1) < l.length - j by omega)⟩
    ·have c2:=(by simpa using c2:¬ ((tokCmp ((l.getD j default).token) p.token)=0))
     refine .skip<|.rs fun k29=>.mv Y<|.lda t62 Y (.ptr _ _ _ _ _ Y) Y<|.g (fun _ τ=>⟨_,.buildSlice (.no Y) Y (els:=[[.sl false 115 2 (List.map Entry.c ((l.getD j default).token)),.sl false 98 3 (List.map Env.c98 ((l.getD j default).table))]]) t29 Y z62 Y Y Y Y Y Y Y Y (by simp [i62]) (.cons _ _ _ _ _ _ (.d _) (.cons _ _ _ _ _ _ (.d _) .nil)) Y Y Y τ⟩)<|.g (fun _ τ=>⟨_,.append (.no Y) Y (l3:=List.map Part.c62 ((putS (putF w s) l p j).1++[p]++[(l.getD j default)])) t29 Y z62 Y Y Y Y Y Y Y Y (.ref _ _ _ _ Y) (.take _ _ _ _ _ Y) Y (by (have h9:=putS_len (f:=putF w s) (l:=l) (p:=p) j; simp [i62]; omega)) (map_snoc _ _ _) Y Y τ⟩)<|.as Y<|.z<|.rs fun k30=>?_
     refine .mv Y<|.bi Y<|.as Y<|.z ?_
     exact .here ((j+1),(k29+1+1+1),(k29+1+1+1)) (.of (.cons Y (.cons Y (.cons Y (.cons Y (.cons (by show SV.one (.ref [14] (k29+1+1+1))=SV.one (.ref [14] ((k29+1+1+1))); first | rfl | simp_all) (.cons (svB (show (true)=((putS (putF w s) l p (j+1)).2) by first | rfl | omega | exact wrap_le (by omega) (by omega) | (exfalso; omega) | exact (put_a c1).2 | exact (put_bT c1 c2 c3).2 | exact (put_bF c1 c2 c3).2 | exact (put_c c1 c2).2)) (.cons (svI (show (IntKind.wrap .i64 ((j:Int)+1))=(((j+1):Int)) by first | rfl | omega | exact wrap_le (by omega) (by omega) | (exfalso; omega) | exact (put_a c1).2 | exact (put_bT c1 c2 c3).2 | exact (put_bF c1 c2 c3).2 | exact (put_c c1 c2).2)) .nil))))))) (.cons Y (.cons (rowE (show List.map Part.c62 ((putS (putF w s) l p j).1++[p]++[(l.getD j default)])=List.map Part.c62 ((putS (putF w s) l p (j+1)).1) by first | with_reducible rfl | rfl | (exfalso; omega) | exact congrArg _ (put_a c1).1 | exact congrArg _ (put_bT c1 c2 c3).1 | exact congrArg _ (put_bF c1 c2 c3).1 | exact congrArg _ (put_c c1 c2).1)) .nil))) ⟨(show (j+1)≤l.length by omega),(show l.length - (j+1) < l.length - j by omega)⟩
   ·have c1:=(aF dF (nF id)) c1
    refine .skip<|.seq<|.rs fun k31=>.mv Y<|.mv Y<|.g (fun _ τ=>⟨_,.indexAddr (.no Y) Y (j) t29 Y t62 Y Y Y (.d _ _) Y Y Y (map_get (by omega)) Y Y τ⟩)<|.lda t62 Y (.d _) Y<|.g (fun _ τ=>⟨_,.alloc (.no Y) Y z62 Y Y Y τ⟩)<|.g (fun _ τ=>⟨_,.store (.no Y) Y t62 Y Y Y Y Y Y Y Y Y τ⟩) ?_
    refine .z<|.seq<|.seq<|.rs fun k32=>.mv Y<|.bi Y<|.z ?_
    refine .cond (t:=(tokCmp ((l.getD j default).token) p.token) == 0) Y (fun c2=>?_) (fun c2=>?_)
    ·have c2:=(by simpa using c2:(tokCmp ((l.getD j default).token) p.token)=0)
     refine .seq<|.rs fun k33=>.as Y<|.z<|.seq ?_
     refine .regD (X:=Nat) (by kernel_rfl) (fun ζ=>.of [(0,.one (.d (.sl false 62 2 (List.map Part.c62 (l))))),(2,.one (.d (.v (.bool (w))))),(3,.one (.d (.sl false 2 1 (List.map i64c (s))))),(5,.one (.ptr [5] (k5) 0)),(9,.one (.ref [14] (q9))),(10,.one (.d (.v (.bool (true))))),(11,.one (.d (.v (.int .i64 ((j:Int)))))),(13,.one (.ptr [13] (k31+1+1+1+1) 0))] [([5],(k5,k5,.box [.d (.sl false 115 2 (List.map Entry.c (p.token))),.d (.sl false 98 3 (List.map Env.c98 (p.table)))])),([13],(k31+1+1+1+1,ζ,.box [.d (.sl false 115 2 (List.map Entry.c ((l.getD j default).token))),.d (.sl false 98 3 (List.map Env.c98 (zip2 Env.join ((l.getD j default).table) p.table)))])),([14],(q9,q10,.row 62 2 (List.map Part.c62 ((putS (putF w s) l p j).1))))]) [⟨[0],some 45,[],[]⟩,⟨[11],some 46,[],[]⟩,⟨[45,46],some 47,[],[]⟩,⟨[47],some 48,[],[]⟩,⟨[48],some 49,[],[]⟩,⟨[5],some 50,[],[]⟩,⟨[50],some 51,[[5]],[]⟩,⟨[49,51],some 52,[],[]⟩,⟨[13],some 53,[],[]⟩,⟨[53,52],none,[[13]],[[13]]⟩] (by kernel_rfl) (fun k34=>?_) ?_
     ·skip
      refine .move (.no Y) Y Y Y Y<|.move (.no Y) Y Y Y Y<|.indexAddr (.no Y) Y (j) t29 Y t62 Y Y Y (.d _ _) Y Y Y (map_get (by omega)) Y Y<|.fieldAddr (.no Y) Y t62 Y Y t60 Y Y Y Y [] (by simp) (by intro _ _ _ h; cases h) Y Y<|.load (.no Y) Y t60 Y Y (.d _) Y Y Y Y<|.fieldAddrP (.no Y) Y t62 Y Y t60 Y Y Y Y<|.load (.no Y) Y t60 Y Y (.ptr _ _ _ _ _ Y) Y Y Y Y ?_
      refine .call (.no Y) Y [] [] (c_l8Join ((l.getD j default).table) p.table (by first | assumption | exact hk _ (by omega) | exact (hp j (by omega)).1 | exact (hp j (by omega)).2.1 | exact (hp j (by omega)).2.2.1 | exact (hp j (by omega)).2.2.2) (by first | assumption | exact hk _ (by omega) | exact (hp j (by omega)).1 | exact (hp j (by omega)).2.1 | exact (hp j (by omega)).2.2.1 | exact (hp j (by omega)).2.2.2) (by first | assumption | exact hk _ (by omega) | exact (hp j (by omega)).1 | exact (hp j (by omega)).2.1 | exact (hp j (by omega)).2.2.1 | exact (hp j (by omega)).2.2.2) (by first | assumption | exact hk _ (by omega) | exact (hp j (by omega)).1 | exact (hp j (by omega)).2.1 | exact (hp j (by omega)).2.2.1 | exact (hp j (by omega)).2.2.2)) Y Y Y Y Y (.dd (.dd .nil)) Y Y (fun h=>absurd Y h) (.frz [52,0] (Frz.of_erase (erase_slo _ _ _ _ _ _ Env.co98_e)) .nil) (.nil) Y Y Y (by simp) Y Y Y ?_
      refine .fieldAddrP (.no Y) Y t62 Y Y t60 Y Y Y Y<|.store (.no Y) Y t60 Y Y Y Y Y Y Y Y Y ?_
      exact .fin (k34+1+1+1+1+1+1+1+1+1) (.of (.r Y) (.r Y))
     intro g35
     refine .seq<|.rs fun k36=>.mv Y<|.z ?_
     refine .cond (t:=w) Y (fun c3=>?_) (fun c3=>?_)
     ·have c3:=c3
      refine .regD (X:=Nat) (by kernel_rfl) (fun ζ=>.of [(0,.one (.d (.sl false 62 2 (List.map Part.c62 (l))))),(2,.one (.d (.v (.bool (w))))),(3,.one (.d (.sl false 2 1 (List.map i64c (s))))),(5,.one (.ptr [5] (k5) 0)),(9,.one (.ref [14] (q9))),(10,.one (.d (.v (.bool (true))))),(11,.one (.d (.v (.int .i64 ((j:Int)))))),(13,.one (.ptr [13] (k31+1+1+1+1) 0))] [([5],(k5,k5,.box [.d (.sl false 115 2 (List.map Entry.c (p.token))),.d (.sl false 98 3 (List.map Env.c98 (p.table)))])),([13],(k31+1+1+1+1,ζ,.box [.d (.sl false 115 2 (List.map Entry.c ((l.getD j default).token))),.d (.sl false 98 3 (List.map Env.c98 (zip2 (Env.joinW (fun x y=>Iv.widenOk s x y)) ((l.getD j default).table) p.table)))])),([14],(q9,q10,.row 62 2 (List.map Part.c62 ((putS (putF w s) l p j).1))))]) [⟨[0],some 55,[],[]⟩,⟨[11],some 56,[],[]⟩,⟨[55,56],some 57,[],[]⟩,⟨[57],some 58,[],[]⟩,⟨[58],some 59,[],[]⟩,⟨[5],some 60,[],[]⟩,⟨[60],some 61,[[5]],[]⟩,⟨[3],some 62,[],[]⟩,⟨[59,61,62],some 63,[],[]⟩,⟨[13],some 64,[],[]⟩,⟨[64,63],none,[[13]],[[13]]⟩] (by kernel_rfl) (fun k37=>?_) ?_
      ·skip
       refine .move (.no Y) Y Y Y Y<|.move (.no Y) Y Y Y Y<|.indexAddr (.no Y) Y (j) t29 Y t62 Y Y Y (.d _ _) Y Y Y (map_get (by omega)) Y Y<|.fieldAddr (.no Y) Y t62 Y Y t60 Y Y Y Y [] (by simp) (by intro _ _ _ h; cases h) Y Y<|.load (.no Y) Y t60 Y Y (.d _) Y Y Y Y<|.fieldAddrP (.no Y) Y t62 Y Y t60 Y Y Y Y<|.load (.no Y) Y t60 Y Y (.ptr _ _ _ _ _ Y) Y Y Y Y<|.move (.no Y) Y Y Y Y ?_
       refine .call (.no Y) Y [] [] (c_l8Widen ((l.getD j default).table) p.table s (by first | assumption | exact hk _ (by omega) | exact (hp j (by omega)).1 | exact (hp j (by omega)).2.1 | exact (hp j (by omega)).2.2.1 | exact (hp j (by omega)).2.2.2) (by first | assumption | exact hk _ (by omega) | exact (hp j (by omega)).1 | exact (hp j (by omega)).2.1 | exact (hp j (by omega)).2.2.1 | exact (hp j (by omega)).2.2.2) (by first | assumption | exact hk _ (by omega) | exact (hp j (by omega)).1 | exact (hp j (by omega)).2.1 | exact (hp j (by omega)).2.2.1 | exact (hp j (by omega)).2.2.2) (by first | assumption | exact hk _ (by omega) | exact (hp j (by omega)).1 | exact (hp j (by omega)).2.1 | exact (hp j (by omega)).2.2.1 | exact (hp j (by omega)).2.2.2)) Y Y Y Y Y (.dd (.dd (.dd .nil))) Y Y (fun h=>absurd Y h) (.frz [63,0] (Frz.of_erase (erase_slo _ _ _ _ _ _ Env.co98_e)) .nil) (.nil) Y Y Y (by simp) Y Y Y ?_
       refine .fieldAddrP (.no Y) Y t62 Y Y t60 Y Y Y Y<|.store (.no Y) Y t60 Y Y Y Y Y Y Y Y Y ?_
       exact .fin (k37+1+1+1+1+1+1+1+1+1+1) (.of (.r Y) (.r Y))
      intro g38
      refine .rs fun k39=>.mv Y<|.lda t62 Y (.ptr _ _ _ _ _ Y) Y<|.g (fun _ τ=>⟨_,.buildSlice (.no Y) Y (els:=[[.sl false 115 2 (List.map Entry.c ((l.getD j default).token)),.sl false 98 3 (List.map Env.c98 (zip2 (Env.joinW (fun x y=>Iv.widenOk s x y)) ((l.getD j default).table) p.table))]]) t29 Y z62 Y Y Y Y Y Y Y Y (by simp [i62]) (.cons _ _ _ _ _ _ (.d _) (.cons _ _ _ _ _ _ (.d _) .nil)) Y Y Y τ⟩)<|.g (fun _ τ=>⟨_,.append (.no Y) Y (l3:=List.map Part.c62 ((putS (putF w s) l p j).1++[(Part.mk ((l.getD j default).token) (zip2 (Env.joinW (fun x y=>Iv.widenOk s x y)) ((l.getD j default).table) p.table))])) t29 Y z62 Y Y Y Y Y Y Y Y (.ref _ _ _ _ Y) (.take _ _ _ _ _ Y) Y (by (have h9:=putS_len (f:=putF w s) (l:=l) (p:=p) j; simp [i62]; omega)) (map_snoc _ _ _) Y Y τ⟩) ?_
      refine .as Y<|.z<|.rs fun k40=>.mv Y<|.bi Y<|.as Y<|.z ?_
      exact .here ((j+1),(k39+1+1+1),(k39+1+1+1)) (.of (.cons Y (.cons Y (.cons Y (.cons Y (.cons (by show SV.one (.ref [14] (k39+1+1+1))=SV.one (.ref [14] ((k39+1+1+1))); first | rfl | simp_all) (.cons (svB (show (true)=((putS (putF w s) l p (j+1)).2) by first | rfl | omega | exact wrap_le (by omega) (by omega) | (exfalso; omega) | exact (put_a c1).2 | exact (put_bT c1 c2 c3).2 | exact (put_bF c1 c2 c3).2 | exact (put_c c1 c2).2)) (.cons (svI (show (IntKind.wrap .i64 ((j:Int)+1))=(((j+1):Int)) by first | rfl | omega | exact wrap_le (by omega) (by omega) | (exfalso; omega) | exact (put_a c1).2 | exact (put_bT c1 c2 c3).2 | exact (put_bF c1 c2 c3).2 | exact (put_c c1 c2).2)) .nil))))))) (.cons Y (.cons (rowE (show List.map Part.c62 ((putS (putF w s) l p j).1++[(Part.mk ((l.getD j default).token) (zip2 (Env.joinW (fun x y=>Iv.widenOk s x y)) ((l.getD j default).table) p.table))])=List.map Part.c62 ((putS (putF w s) l p (j+1)).1) by first | with_reducible rfl | rfl | (exfalso; omega) | exact congrArg _ (put_a c1).1 | exact congrArg _ (put_bT c1 c2 c3).1 | exact congrArg _ (put_bF c1 c2 c3).1 | exact congrArg _ (put_c c1 c2).1)) .nil))) ⟨(show (j+1)≤l.length by omega),(show l.length - (j+1) < l.length - j by omega)⟩
     ·have c3:=c3
      refine .skip<|.rs fun k41=>.mv Y<|.lda t62 Y (.ptr _ _ _ _ _ Y) Y<|.g (fun _ τ=>⟨_,.buildSlice (.no Y) Y (els:=[[.sl false 115 2 (List.map Entry.c ((l.getD j default).token)),.sl false 98 3 (List.map Env.c98 (zip2 Env.join ((l.getD j default).table) p.table))]]) t29 Y z62 Y Y Y Y Y Y Y Y (by simp [i62]) (.cons _ _ _ _ _ _ (.d _) (.cons _ _ _ _ _ _ (.d _) .nil)) Y Y Y τ⟩)<|.g (fun _ τ=>⟨_,.append (.no Y) Y (l3:=List.map Part.c62 ((putS (putF w s) l p j).1++[(Part.mk ((l.getD j default).token) (zip2 Env.join ((l.getD j default).table) p.table))])) t29 Y z62 Y Y Y Y Y Y Y Y (.ref _ _ _ _ Y) (.take _ _ _ _ _ Y) Y (by (have h9:=putS_len (f:=putF w s) (l:=l) (p:=p) j; simp [i62]; omega)) (map_snoc _ _ _) Y Y τ⟩)<|.as Y<|.z<|.rs fun k42=>?_
      refine .mv Y<|.bi Y<|.as Y<|.z ?_
      exact .here ((j+1),(k41+1+1+1),(k41+1+1+1)) (.of (.cons Y (.cons Y (.cons Y (.cons Y (.cons (by show SV.one (.ref [14] (k41+1+1+1))=SV.one (.ref [14] ((k41+1+1+1))); first | rfl | simp_all) (.cons (svB (show (true)=((putS (putF w s) l p (j+1)).2) by first | rfl | omega | exact wrap_le (by omega) (by omega) | (exfalso; omega) | exact (put_a c1).2 | exact (put_bT c1 c2 c3).2 | exact (put_bF c1 c2 c3).2 | exact (put_c c1 c2).2)) (.cons (svI (show (IntKind.wrap .i64 ((j:Int)+1))=(((j+1):Int)) by first | rfl | omega | exact wrap_le (by omega) (by omega) | (exfalso; omega) | exact (put_a c1).2 | exact (put_bT c1 c2 c3).2 | exact (put_bF c1 c2 c3).2 | exact (put_c c1 c2).2)) .nil))))))) (.cons Y (.cons (rowE (show List.map Part.c62 ((putS (putF w s) l p j).1++[(Part.mk ((l.getD j default).token) (zip2 Env.join ((l.getD j default).table) p.table))])=List.map Part.c62 ((putS (putF w s) l p (j+1)).1) by first | with_reducible rfl | rfl | (exfalso; omega) | exact congrArg _ (put_a c1).1 | exact congrArg _ (put_bT c1 c2 c3).1 | exact congrArg _ (put_bF c1 c2 c3).1 | exact congrArg _ (put_c c1 c2).1)) .nil))) ⟨(show (j+1)≤l.length by omega),(show l.length - (j+1) < l.length - j by omega)⟩
    ·have c2:=(by simpa using c2:¬ ((tokCmp ((l.getD j default).token) p.token)=0))
     refine .skip<|.rs fun k43=>.mv Y<|.lda t62 Y (.ptr _ _ _ _ _ Y) Y<|.g (fun _ τ=>⟨_,.buildSlice (.no Y) Y (els:=[[.sl false 115 2 (List.map Entry.c ((l.getD j default).token)),.sl false 98 3 (List.map Env.c98 ((l.getD j default).table))]]) t29 Y z62 Y Y Y Y Y Y Y Y (by simp [i62]) (.cons _ _ _ _ _ _ (.d _) (.cons _ _ _ _ _ _ (.d _) .nil)) Y Y Y τ⟩)<|.g (fun _ τ=>⟨_,.append (.no Y) Y (l3:=List.map Part.c62 ((putS (putF w s) l p j).1++[(l.getD j default)])) t29 Y z62 Y Y Y Y Y Y Y Y (.ref _ _ _ _ Y) (.take _ _ _ _ _ Y) Y (by (have h9:=putS_len (f:=putF w s) (l:=l) (p:=p) j; simp [i62]; omega)) (map_snoc _ _ _) Y Y τ⟩)<|.as Y<|.z<|.rs fun k44=>?_
     refine .mv Y<|.bi Y<|.as Y<|.z ?_
     exact .here ((j+1),(k43+1+1+1),(k43+1+1+1)) (.of (.cons Y (.cons Y (.cons Y (.cons Y (.cons (by show SV.one (.ref [14] (k43+1+1+1))=SV.one (.ref [14] ((k43+1+1+1))); first | rfl | simp_all) (.cons (svB (show ((putS (putF w s) l p j).2)=((putS (putF w s) l p (j+1)).2) by first | rfl | omega | exact wrap_le (by omega) (by omega) | (exfalso; omega) | exact (put_a c1).2 | exact (put_bT c1 c2 c3).2 | exact (put_bF c1 c2 c3).2 | exact (put_c c1 c2).2)) (.cons (svI (show (IntKind.wrap .i64 ((j:Int)+1))=(((j+1):Int)) by first | rfl | omega | exact wrap_le (by omega) (by omega) | (exfalso; omega) | exact (put_a c1).2 | exact (put_bT c1 c2 c3).2 | exact (put_bF c1 c2 c3).2 | exact (put_c c1 c2).2)) .nil))))))) (.cons Y (.cons (rowE (show List.map Part.c62 ((putS (putF w s) l p j).1++[(l.getD j default)])=List.map Part.c62 ((putS (putF w s) l p (j+1)).1) by first | with_reducible rfl | rfl | (exfalso; omega) | exact congrArg _ (put_a c1).1 | exact congrArg _ (put_bT c1 c2 c3).1 | exact congrArg _ (put_bF c1 c2 c3).1 | exact congrArg _ (put_c c1 c2).1)) .nil))) ⟨(show (j+1)≤l.length by omega),(show l.length - (j+1) < l.length - j by omega)⟩
  ·have c0:=of_decide_eq_false c0
   refine .exit<|.seq<|.seq<|.rs fun k45=>.mv Y<|.un Y<|.z ?_
   refine .cond (t:=!((putS (putF w s) l p j).2)) Y (fun c4=>?_) (fun c4=>?_)
   ·have c4:=(nT id) c4
    refine .rs fun k46=>.mv Y<|.lda t62 Y (.ptr _ _ _ _ _ Y) Y<|.g (fun _ τ=>⟨_,.buildSlice (.no Y) Y (els:=[[.sl false 115 2 (List.map Entry.c (p.token)),.sl false 98 3 (List.map Env.c98 (p.table))]]) t29 Y z62 Y Y Y Y Y Y Y Y (by simp [i62]) (.cons _ _ _ _ _ _ (.d _) (.cons _ _ _ _ _ _ (.d _) .nil)) Y Y Y τ⟩)<|.g (fun _ τ=>⟨_,.append (.no Y) Y (l3:=List.map Part.c62 ((putS (putF w s) l p j).1++[p])) t29 Y z62 Y Y Y Y Y Y Y Y (.ref _ _ _ _ Y) (.take _ _ _ _ _ Y) Y (by (have h9:=putS_len (f:=putF w s) (l:=l) (p:=p) j; simp [i62]; omega)) (map_snoc _ _ _) Y Y τ⟩)<|.as Y<|.z<|.seq<|.rs fun k47=>?_
    refine .mv Y<|.as Y<|.z<|.ret ?_
    have e48:((putS (putF w s) l p j).1++[p])=(putV (putF w s) l p):=by (have hj9:j=l.length:=(by omega); rw [hj9] at c4 ⊢; first | exact (putV_0 c4).symm | exact (putV_1 c4).symm)
    exact fin1 (.inr Y) [] [([14],(k46+1+1+1,k46+1+1+1,.row 62 2 (List.map Part.c62 (putV (putF w s) l p))))] (.one Y .nil) (.cons (.ref (.head _)) .nil) Y Y (.cons (rowE (congrArg (List.map Part.c62) e48)) .nil)
   ·have c4:=(nF id) c4
    refine .skip<|.seq<|.rs fun k49=>.mv Y<|.as Y<|.z<|.ret ?_
    have e50:((putS (putF w s) l p j).1)=(putV (putF w s) l p):=by (have hj9:j=l.length:=(by omega); rw [hj9] at c4 ⊢; first | exact (putV_0 c4).symm | exact (putV_1 c4).symm)
    exact fin1 (.inr Y) [] [([14],(q9,q10,.row 62 2 (List.map Part.c62 (putV (putF w s) l p))))] (.one Y .nil) (.cons (.ref (.head _)) .nil) Y Y (.cons (rowE (congrArg (List.map Part.c62) e50)) .nil)
end Go.Proofs

namespace Go.Proofs
open Go Go.Proofs Go.Ev

theorem c_InsertE (l:List Part) (i:Int) (v:List Part) (hi:i=(l.length:Int)) (hl:l.length≤1048576) (hv:v.length=1):Trip Tryz.prog 98 [(false,1),(false,1),(false,1)] ([.sl true 62 2 (List.map Part.co62 (l))]++[.v (.int .i64 (i))]++[.sl true 62 2 (List.map Part.co62 (v))]) [(false,1)] [.sl true 62 2 (List.map Part.co62 (l++v))] []:=by
 refine Trip.of Tryz.func98 (by decide) (c:=_) Y Y (Nat.le_of_ble_eq_true Y) Y (AftOk.nil _)<|.seq<|.rs fun k1=>.as Y<|.z<|.seq<|.rs fun k2=>.mv Y<|.mv Y ?_
 refine .g (fun _ τ=>⟨_,.slice (.no Y) Y (lv:=(i).toNat) (hv:=(List.map Part.co62 (l)).length) (m:=0) t29 Y t62 Y Y (.ref _ _ _ _ _ Y) Y (by intro _ _ h; cases h; exact ⟨_,.head _⟩) (by exact ⟨_,nat_iv (a:=i) (by omega)⟩) (by exact rfl) (le_map (by omega)) (Nat.le_refl _) (cut_ref (L:=l) Part.co62_e) Y τ⟩)<|.z<|.seq<|.rs fun k3=>.mv Y<|.g (fun _ τ=>⟨_,.len (.no Y) Y (z:=(v.length:Int)) t29 Y Y Y (.ref _ _ _ _ _ Y) (map_len _ _) Y τ⟩)<|.as Y<|.z<|.seq ?_
 refine .seq<|.rs fun k4=>.mv Y<|.bi Y<|.z ?_
 refine .cond (t:=(v.length:Int) == 0) Y (fun c0=>?_) (fun c0=>?_)
 ·have c0:=(by simpa using c0:(v.length:Int)=0)
  exact ((by omega:False)).elim
 ·have c0:=(by simpa using c0:¬ ((v.length:Int)=0))
  refine .skip<|.seq<|.rs fun k5=>.mv Y<|.g (fun _ τ=>⟨_,.len (.no Y) Y (z:=(l.length:Int)) t29 Y Y Y (.ref _ _ _ _ _ Y) (map_len _ _) Y τ⟩)<|.as Y<|.z<|.seq<|.seq ?_
  refine .rs fun k6=>.mv Y<|.mv Y<|.bi Y<|.z ?_
  refine .cond (t:=i == (l.length:Int)) Y (fun c1=>?_) (fun c1=>?_)
  ·have c1:=(by simpa using c1:i=(l.length:Int))
   refine .seq<|.rs fun k7=>.mv Y<|.mv Y<|.g (fun _ τ=>⟨_,.append (.no Y) Y (l3:=List.map Part.co62 (l++v)) t29 Y z62 Y Y Y Y Y Y Y Y (.ref _ _ _ _ Y) (.take _ _ _ _ _ Y) Y (by simp [i62]; omega) (map_app _ _ _) Y Y τ⟩)<|.as Y<|.z<|.ret ?_
   exact fin1 (.inr Y) [] [([0,0,0],(k7+1+1,k7+1+1,.row 62 2 (List.map Part.co62 (l++v))))] (.one Y .nil) (.cons (.ref (.head _)) .nil) Y Y (.r Y)
  ·have c1:=(by simpa using c1:¬ (i=(l.length:Int)))
   exact ((c1 hi)).elim
end Go.Proofs

namespace Go.Proofs
open Go Go.Proofs Go.Ev
section
open Go.Shelf Go.RowKit Go.Lib
theorem info62:(Tryz.prog.info? 62).map (fun i=>(i.zero,i.size,i.bytes))=some (some (Value.agg #[.slice none 0 0,.slice none 0 0]),2,48):=by kernel_rfl
set_option maxHeartbeats 4000000 in
set_option maxRecDepth 100000 in
theorem ins_roomM (w:World) (b vb n c i vc m:Nat) (cur cur2:Array Value) (cells news:List Value) (hi:i < n) (hm:0 < m) (hroom:n+m≤c) (hc63:c≤9223372036854775807) (hvb:vb≠b)
    (hb:w.heap[b]?=some (.cells cur 62 (0,0))) (hcs:cur.size=c * 2) (hct:cur.toList.take (n * 2)=cells) (h1c:∀ v∈cells,v.oneCell'=true)
    (hb2:w.heap[vb]?=some (.cells cur2 62 (0,0))) (hcs2:cur2.size=vc * 2) (hct2:cur2.toList.take (m * 2)=news) (h1v:∀ v∈news,v.oneCell'=true) (hmv:m≤vc) :
    Calls Tryz.prog 98 #[.slice (some ⟨b,0,none⟩) n c,.int .i64 i,.slice (some ⟨vb,0,none⟩) m vc] w fun e' w'=>e'=.returned (.slice (some ⟨b,0,none⟩) (n+m) c) ∧
      w'=(w.drew.setRow b (cur.toList.take ((i+m) * 2)++cells.drop (i * 2)++cur.toList.drop ((i+m) * 2+(n - i) * 2)).toArray).setRow b (((cur.toList.take ((i+m) * 2)++cells.drop (i * 2)++cur.toList.drop ((i+m) * 2+(n - i) * 2))).take (i * 2)++news++((cur.toList.take ((i+m) * 2)++cells.drop (i * 2)++cur.toList.drop ((i+m) * 2+(n - i) * 2))).drop (i * 2+m * 2)).toArray:=by
  have uI:=run_underlying Tryz.underlying3; have uB:=run_underlying Tryz.underlying4; have u29:=run_underlying Tryz.underlying29; have u62:=run_underlying Tryz.underlying62
  have hz1:¬ ((m:Int)=0):=by omega
  have hz2:¬ ((i:Int)=(n:Int)):=by omega
  obtain ⟨i0,hi0,hz0,hi1,hby⟩:=info_parts info62
  have z62:∀ w,(Go.sizeOf 62).run Tryz.prog w=.ok 2 w:=fun w=>by kernel_rfl
  have hsa:w.shape? vb=some (62,vc * 2):=by simp [World.shape?,hb2,hcs2]
  have hsb:w.shape? b=some (62,c * 2):=by simp [World.shape?,hb,hcs]
  have hfa:w.frozen? ⟨vb,0,none⟩=false:=by simp [World.frozen?,hb2]
  have hfe:w.frozen? ⟨vb,vc * 2,none⟩=false:=by simp [World.frozen?,hb2]
  have hov:∀ o lb cb,(callFunc 146 #[.slice (some ⟨vb,0,none⟩) m vc,.slice (some ⟨b,o,none⟩) lb cb]).run Tryz.prog w=.ok (.value (.bool false)) w:=fun o lb cb=>by
    rw [run_callFunc_extern Tryz.func146 (by kernel_rfl) (by kernel_rfl) (by kernel_rfl) (e:=Extern.SlicesOverlaps.overlaps #[29,29] #[4]) (by kernel_rfl),
      Lib.run_overlaps_apart w 29 4 62 Tryz.underlying29 2 z62 ⟨vb,0,none⟩ ⟨b,o,none⟩ m vc lb cb hvb 62 62 (vc * 2) (c * 2) hsa hsb (by omega) hfa hfe]
    rfl
  have hw1:IntKind.i64.wrap ((i:Int)+(m:Int))=(i:Int)+(m:Int):=by rw [IntKind.wrap_i64]; omega
  have hb1:(0:Int)≤(i:Int)+(m:Int):=by omega
  have hin:i≤n:=by omega
  have htn:((i:Int)+(m:Int)).toNat=i+m:=by omega
  have hb2':¬ (c=i+m):=by omega
  have hb3:(i:Int)≤(n:Int)+(m:Int):=by omega
  have hb4:¬ (c=i):=by omega
  have mixed:Tryz.prog.follows .mixedOrders=true:=by kernel_rfl
  have hcl:cells.length=n * 2:=by rw [← hct]; exact take_all9 hcs (by omega)
  have hvl:news.length=m * 2:=by rw [← hct2]; exact take_all9 hcs2 hmv
  have hdl:(cells.drop (i * 2)).length=(n - i) * 2:=by rw [List.length_drop,hcl]; omega
  have hmin:Nat.min (n+m - i) (n+m - (i+m))=n - i:=by simp only [Nat.min_def]; split<;>omega
  have hmin2:Nat.min m (n+m - i)=m:=by simp only [Nat.min_def]; split<;>omega
  obtain ⟨cu,hcu⟩:∃ cu,cu=cur.toList.take ((i+m) * 2)++cells.drop (i * 2)++cur.toList.drop ((i+m) * 2+(n - i) * 2):=⟨_,rfl⟩
  rw [← hcu]
  have hcul:cu.length=c * 2:=by
    rw [hcu]; simp only [List.length_append,List.length_take,List.length_drop,Array.length_toList,hcs,hdl]; omega
  have hcp1:∀ ty dc sc,(Builtin.copy_ #[29,29] ty #[.slice (some ⟨b,(i+m) * 2,none⟩) (n+m - (i+m)) dc,.slice (some ⟨b,i * 2,none⟩) (n+m - i) sc]).run Tryz.prog w.drew=.ok (goInt ((n - i:Nat):Int)) (w.drew.setRow b cu.toArray):=fun ty dc sc=>by
    have h:=run_copy_rowN (P:=Tryz.prog) w.drew 29 29 ty 62 b ((i+m) * 2) (n+m - (i+m)) dc ⟨b,i * 2,none⟩ (n+m - i) sc cur 62 (cells.drop (i * 2)) i0 Tryz.underlying29 hi0 hb (by rw [hdl,hmin,hi1])
      (fun j v hj=>row_cell9 (w:=w.drew) hb (by
        rw [← hct,List.getElem?_drop,List.getElem?_take] at hj
        split at hj
        · exact hj
        · cases hj)) (by rw [hdl,hcs]; omega) (fun v hv=>h1c v (List.mem_of_mem_drop hv))
    rw [hmin,hdl,← hcu] at h
    exact h
  obtain ⟨W1,hW1⟩:∃ W1,W1=w.drew.setRow b cu.toArray:=⟨_,rfl⟩
  rw [← hW1] at hcp1
  have hbb:W1.heap[b]?=some (.cells cu.toArray 62 (0,0)):=by rw [hW1]; exact setRow_heap w.drew b cur _ 62 _ hb
  have hbv:W1.heap[vb]?=some (.cells cur2 62 (0,0)):=by rw [hW1]; exact ((ext_setRow w.drew b cu.toArray (fun k=>k=b) Y).block vb (by exact (Array.getElem?_eq_some_iff.1 hb2).1) hvb).trans hb2
  have hcp2:∀ (W:World),W.heap=W1.heap→∀ ty dc,(Builtin.copy_ #[29,29] ty #[.slice (some ⟨b,i * 2,none⟩) (n+m - i) dc,.slice (some ⟨vb,0,none⟩) m vc]).run Tryz.prog W=.ok (goInt m) (W.setRow b (cu.take (i * 2)++news++cu.drop (i * 2+m * 2)).toArray):=fun W hW ty dc=>by
    have h:=run_copy_rowN (P:=Tryz.prog) W 29 29 ty 62 b (i * 2) (n+m - i) dc ⟨vb,0,none⟩ m vc cu.toArray 62 news i0 Tryz.underlying29 hi0 (by rw [hW]; exact hbb) (by rw [hvl,hmin2,hi1])
      (fun j v hj=>row_cell9 (w:=W) (by rw [hW]; exact hbv) (by
        rw [← hct2,List.getElem?_take] at hj
        split at hj
        · rw [Nat.zero_add]; exact hj
        · cases hj)) (by rw [hvl]; simp only [List.size_toArray,hcul]; omega) h1v
    rw [hmin2,hvl] at h
    exact h
  go_enter Tryz.func98,Tryz.ntmps98
  go_wp2_with (simp only [hov])
  go_region_law_o (refine step_copy_runI Y _ _ 29 29 Y _ _ (by simp [Act.eval,Act.put]) (by simp [Act.eval,Act.put]) (hcp1 _ _ _) ?_)
  go_wp2_with (at_builtin; refine wpList_copy_runI _ Y _ _ 29 29 Y _ _ Y Y (hcp2 _ Y _ _) ?_)
  go_ret
  exact ⟨rfl,by rw [hcu]; simp only [List.append_assoc]⟩
theorem ins_room:InsRoom Tryz.prog 98 62 2:=by
  intro w b vb n c i vc cur cur2 cells news hi hroom hcm hn hvb hvc hb hcs hct h1c hb2 hcs2 hct2 h1v
  have hc63:c≤9223372036854775807:=hcm
  refine (ins_roomM w b vb n c i vc 1 cur cur2 cells news hi (by omega) hroom hc63 hvb hb hcs hct h1c hb2 hcs2 (by rw [Nat.one_mul]; exact hct2) h1v hvc).mono fun e' W' ⟨h1,h2⟩=>?_
  have hM:news.length=1 * 2:=by rw [← hct2]; have:=take_all9 (n:=1) (k:=2) hcs2 hvc; simpa using this
  have hl:=ins_list (cur:=cur.toList) (cells:=cells) (news:=news) (I:=i * 2) (M:=1 * 2) (N:=n * 2) (C:=c * 2) hct (by rw [Array.length_toList,hcs]) (by omega) (by omega) hM Y
  have e1:(i+1) * 2=i * 2+1 * 2:=by omega
  have e2:(n - i) * 2=n * 2 - i * 2:=by omega
  have e3:(n+1) * 2=n * 2+1 * 2:=by omega
  rw [e1,e2] at h2
  subst h2
  refine ⟨h1,?_,?_,_,setRow_heap _ b _ _ 62 _ (setRow_heap w.drew b cur _ 62 _ hb),?_,?_⟩
  · refine ⟨rfl,rfl,rfl,by simp,fun k hk hne=>?_⟩
    rw [setRow_other _ _ _ _ hne,setRow_other _ _ _ _ hne]; rfl
  · simp
  · simp only [List.size_toArray]; exact hl.2
  · rw [e3]; exact hl.1
set_option maxHeartbeats 4000000 in
set_option maxRecDepth 100000 in
theorem ins_growM (w:World) (b vb n c i vc m:Nat) (cur cur2:Array Value) (cells news:List Value) (hi:i < n) (hm:0 < m) (hnc:n≤c) (hroom:c < n+m) (hbig:(n+m) * 48≤140737488355328) (hvb:vb≠b)
    (hb:w.heap[b]?=some (.cells cur 62 (0,0))) (hcs:cur.size=c * 2) (hct:cur.toList.take (n * 2)=cells) (h1c:∀ v∈cells,v.oneCell'=true)
    (hb2:w.heap[vb]?=some (.cells cur2 62 (0,0))) (hcs2:cur2.size=vc * 2) (hct2:cur2.toList.take (m * 2)=news) (h1v:∀ v∈news,v.oneCell'=true) (hmv:m≤vc) :
    Calls Tryz.prog 98 #[.slice (some ⟨b,0,none⟩) n c,.int .i64 i,.slice (some ⟨vb,0,none⟩) m vc] w fun e' w'=>∃ (row r1:List Value),e'=.returned (.slice (some ⟨w.heap.size,0,none⟩) (n+m) (grownCap w (n+m) c 62)) ∧
      row.length=grownCap w (n+m) c 62 * 2∧row.take (i * 2)=cells.take (i * 2)∧r1=row.take (i * 2)++news++row.drop (i * 2+m * 2) ∧
      ∃ (W1 W2:World),W1.os=w.os∧W1.tape=w.tape∧W1.output=w.output∧W1.heap=(w.alloc (.cells row.toArray 62)).heap∧W2=W1.setRow w.heap.size r1.toArray ∧
      ∃ W3:World,W3.os=W2.os∧W3.tape=W2.tape∧W3.output=W2.output∧W3.heap=W2.heap∧w'=W3.setRow w.heap.size (r1.take (i * 2+m * 2)++cells.drop (i * 2)++r1.drop (i * 2+m * 2+(n * 2 - i * 2))).toArray:=by
  have uI:=run_underlying Tryz.underlying3; have uB:=run_underlying Tryz.underlying4; have u29:=run_underlying Tryz.underlying29; have u62:=run_underlying Tryz.underlying62
  have mixed:Tryz.prog.follows .mixedOrders=true:=by kernel_rfl
  obtain ⟨i0,hi0,hz0,hi1,hby⟩:=info_parts info62
  obtain ⟨z0,hz9⟩:∃ z0,z0=Value.agg #[.slice none 0 0,.slice none 0 0]:=⟨_,rfl⟩
  have hzc:z0.cells.size=2:=by rw [hz9]; rfl
  rw [← hz9] at hz0
  have hz1:¬ ((m:Int)=0):=by omega
  have hz2:¬ ((i:Int)=(n:Int)):=by omega
  have hz3:(c:Int) < (n:Int)+(m:Int):=by omega
  have hcl:cells.length=n * 2:=by rw [← hct]; exact take_all9 hcs hnc
  have hvl:news.length=m * 2:=by rw [← hct2]; exact take_all9 hcs2 hmv
  have hdl:(cells.drop (i * 2)).length=(n - i) * 2:=by rw [List.length_drop,hcl]; omega
  have hbw:b < w.heap.size:=(Array.getElem?_eq_some_iff.1 hb).1
  have hvw:vb < w.heap.size:=(Array.getElem?_eq_some_iff.1 hb2).1
  have hkk:(n:Int)+(m:Int) - (i:Int)=((n+m - i:Nat):Int):=by omega
  have hik:i+(n+m - i)=n+m:=by omega
  have hold:(Builtin.firstCells i0.size i (.slice (some ⟨b,0,none⟩) i c)).run Tryz.prog w.drew=.ok (cells.take (i * 2)).toArray w.drew:=by
    rw [hi1]
    exact run_firstCells_some w.drew 2 i ⟨b,0,none⟩ i c (cells.take (i * 2)) (by rw [List.length_take]; omega) (fun j v hj=>row_cell9 (w:=w.drew) hb (by
      rw [Nat.zero_add]
      rw [← hct,List.take_take,List.getElem?_take] at hj
      split at hj
      · exact hj
      · cases hj))
  have hfit:Builtin.nextslicecap (n+m) c * 48≤281474976710656:=growslice_fits hroom hbig
  have hrz:∀ ty,(Builtin.append_ #[29,3] ty #[.slice (some ⟨b,0,none⟩) i c,.int .i64 ((n:Int)+(m:Int) - (i:Int))]).run Tryz.prog w =
      .ok (.slice (some ⟨w.heap.size,0,none⟩) (n+m) (grownCap w (n+m) c 62)) (w.drew.alloc (.cells ((cells.take (i * 2)).toArray++Builtin.zeroCells z0.cells (n+m - i)++Builtin.zeroCells z0.cells (grownCap w (n+m) c 62 - (n+m))) 62)):=fun ty=>by
    have h:=Lib.run_append_grow_zeros w 29 3 ty 62 i0 _ .i64 .i64 Tryz.underlying29 Tryz.underlying3 hi0 hz0 (some ⟨b,0,none⟩) i c (cells.take (i * 2)).toArray.toList (by simpa using hold) (n+m - i) (by omega) (by omega) (by omega) (by omega) (by rw [hby]; have:(n+m - i) * 48≤(n+m) * 48:=Nat.mul_le_mul_right _ (by omega); omega) (by rw [hby,hik]; exact hfit)
    rw [hik] at h
    rw [hkk]
    simpa using h
  obtain ⟨G,hG⟩:∃ G,G=grownCap w (n+m) c 62:=⟨_,rfl⟩
  obtain ⟨row,hROW⟩:∃ row:Array Value,row=(cells.take (i * 2)).toArray++Builtin.zeroCells z0.cells (n+m - i)++Builtin.zeroCells z0.cells (G - (n+m)):=⟨_,rfl⟩
  rw [← hG] at hrz ⊢
  rw [← hROW] at hrz
  have hGn:n+m≤G:=by rw [hG]; exact grownCap_ge w _ _ _
  have hRl:row.size=G * 2:=by
    rw [hROW]
    simp only [Array.size_append,List.size_toArray,List.length_take,size_zeroCells,hzc,hcl]; omega
  have hRt:row.toList.take (i * 2)=cells.take (i * 2):=by
    rw [hROW]
    simp only [Array.toList_append,List.append_assoc]
    rw [List.take_append_of_le_length (by simp only [List.length_take,hcl]; omega),List.take_of_length_le (by simp only [List.length_take,hcl]; omega)]
  have hG63:G≤9223372036854775807:=by
    have:=grownCap_le_maxLen w (n+m) c 62 (by unfold maxLen; omega)
    rw [← hG] at this
    unfold maxLen at this
    omega
  obtain ⟨W1,hW1⟩:∃ W1,W1=w.drew.alloc (.cells row 62):=⟨_,rfl⟩
  rw [← hW1] at hrz
  have h1N:W1.heap[w.heap.size]?=some (.cells row 62 (0,0)):=by rw [hW1]; exact heap_alloc_new w.drew _
  have h1b:W1.heap[b]?=some (.cells cur 62 (0,0)):=by rw [hW1]; exact (heap_alloc_old w.drew _ hbw).trans hb
  have h1v':W1.heap[vb]?=some (.cells cur2 62 (0,0)):=by rw [hW1]; exact (heap_alloc_old w.drew _ hvw).trans hb2
  have hmin2:Nat.min m (n+m - i)=m:=by simp only [Nat.min_def]; split<;>omega
  have hmin3:Nat.min (n - i) (n+m - (i+m))=n - i:=by simp only [Nat.min_def]; split<;>omega
  obtain ⟨r1,hr1⟩:∃ r1,r1=row.toList.take (i * 2)++news++row.toList.drop (i * 2+m * 2):=⟨_,rfl⟩
  have hr1l:r1.length=G * 2:=by
    rw [hr1]; simp only [List.length_append,List.length_take,List.length_drop,Array.length_toList,hRl,hvl]; omega
  have hcpA:∀ (W:World),W.heap=W1.heap→∀ ty dc,(Builtin.copy_ #[29,29] ty #[.slice (some ⟨w.heap.size,i * 2,none⟩) (n+m - i) dc,.slice (some ⟨vb,0,none⟩) m vc]).run Tryz.prog W=.ok (goInt m) (W.setRow w.heap.size r1.toArray):=fun W hW ty dc=>by
    have h:=run_copy_rowN (P:=Tryz.prog) W 29 29 ty 62 w.heap.size (i * 2) (n+m - i) dc ⟨vb,0,none⟩ m vc row 62 news i0 Tryz.underlying29 hi0 (by rw [hW]; exact h1N) (by rw [hvl,hmin2,hi1])
      (fun j v hj=>row_cell9 (w:=W) (by rw [hW]; exact h1v') (by
        rw [← hct2,List.getElem?_take] at hj
        split at hj
        · rw [Nat.zero_add]; exact hj
        · cases hj)) (by rw [hvl,hRl]; omega) h1v
    rw [hmin2,hvl,← hr1] at h
    exact h
  have hNb:b≠w.heap.size:=by omega
  obtain ⟨r2,hr2⟩:∃ r2,r2=r1.take (i * 2+m * 2)++cells.drop (i * 2)++r1.drop (i * 2+m * 2+(n * 2 - i * 2)):=⟨_,rfl⟩
  have hcpB:∀ (W:World),W.heap=(W1.setRow w.heap.size r1.toArray).heap→∀ ty dc sc,(Builtin.copy_ #[29,29] ty #[.slice (some ⟨w.heap.size,(i+m) * 2,none⟩) (n+m - (i+m)) dc,.slice (some ⟨b,i * 2,none⟩) (n - i) sc]).run Tryz.prog W=.ok (goInt ((n - i:Nat):Int)) (W.setRow w.heap.size r2.toArray):=fun W hW ty dc sc=>by
    have e1:(i+m) * 2=i * 2+m * 2:=by omega
    have e2:(n - i) * 2=n * 2 - i * 2:=by omega
    have h:=run_copy_rowN (P:=Tryz.prog) W 29 29 ty 62 w.heap.size ((i+m) * 2) (n+m - (i+m)) dc ⟨b,i * 2,none⟩ (n - i) sc r1.toArray 62 (cells.drop (i * 2)) i0 Tryz.underlying29 hi0 (by rw [hW]; exact setRow_heap W1 _ row _ 62 _ h1N) (by rw [hdl,hmin3,hi1])
      (fun j v hj=>row_cell9 (w:=W) (b:=b) (cur:=cur) (by rw [hW,setRow_other _ _ _ _ hNb]; exact h1b) (by
        rw [← hct,List.getElem?_drop,List.getElem?_take] at hj
        split at hj
        · exact hj
        · cases hj)) (by rw [hdl]; simp only [List.size_toArray,hr1l]; omega) (fun v hv=>h1c v (List.mem_of_mem_drop hv))
    rw [hmin3,hdl,e1,e2,← hr2] at h
    rw [e1]
    exact h
  have hGi:¬ (G=i):=by omega
  have hGim:¬ (G=i+m):=by omega
  have hci:¬ (c=i):=by omega
  have hw1:IntKind.i64.wrap ((i:Int)+(m:Int))=(i:Int)+(m:Int):=by rw [IntKind.wrap_i64]; omega
  have hb1:(0:Int)≤(i:Int)+(m:Int):=by omega
  have hin:i≤n:=by omega
  have htn:((i:Int)+(m:Int)).toNat=i+m:=by omega
  have hb3:(i:Int)≤(n:Int):=by omega
  have hE1:((w.alloc (.cells row 62)).drew).heap=W1.heap:=by rw [hW1]; rfl
  have hE2:(((w.alloc (.cells row 62)).drew.setRow w.heap.size r1.toArray).drew).heap=(W1.setRow w.heap.size r1.toArray).heap:=by rw [hW1]; rfl
  subst hW1
  have walk:Calls Tryz.prog 98 #[.slice (some ⟨b,0,none⟩) n c,.int .i64 i,.slice (some ⟨vb,0,none⟩) m vc] w fun e' w'=>e'=.returned (.slice (some ⟨w.heap.size,0,none⟩) (n+m) G) ∧
      w'=((((w.alloc (.cells row 62)).drew).setRow w.heap.size r1.toArray).drew).setRow w.heap.size r2.toArray:=by
    clear hkk hik hold hG hROW hRt hRl hr1 hr1l hr2
    go_enter Tryz.func98,Tryz.ntmps98
    go_wp2_with (first
      | (at_builtin; refine Lib.wpList_append_run _ Y _ _ _ _ Y _ _ Y Y _ _ (hrz _) ?_)
      | (at_builtin; refine wpList_copy_runI _ Y _ _ 29 29 Y _ _ Y Y (hcpA _ hE1 _ _) ?_)
      | (at_builtin; refine wpList_copy_runI _ Y _ _ 29 29 Y _ _ Y Y (hcpB _ hE2 _ _ _) ?_))
    go_region_law_o (refine step_copy_runI Y _ _ 29 29 Y (.slice (some ⟨w.heap.size,(i+m) * 2,none⟩) (n+m - (i+m)) (G - (i+m))) (.slice (some ⟨b,i * 2,none⟩) (n - i) (c - i)) (by simp [Act.eval,Act.put]) (by simp [Act.eval,Act.put]) (hcpB _ hE2 3 (G - (i+m)) (c - i)) ?_)
    go_wp2
    go_ret
    exact ⟨rfl,rfl⟩
  refine walk.mono fun e' W' ⟨h1,h2⟩=>⟨row.toList,r1,h1,?_,hRt,hr1,(w.alloc (.cells row 62)).drew,_,rfl,rfl,rfl,?_,rfl,(((w.alloc (.cells row 62)).drew).setRow w.heap.size r1.toArray).drew,rfl,rfl,rfl,rfl,?_⟩
  · rw [Array.length_toList]; exact hRl
  · rw [Array.toArray_toList]; rfl
  · rw [h2,hr2]
theorem ins_grow:InsGrow Tryz.prog 98 62 2:=by
  intro w b vb n c i vc cur cur2 cells news hi hnc hroom hn hvb hvc hb hcs hct h1c hb2 hcs2 hct2 h1v
  have hM:news.length=1 * 2:=by rw [← hct2]; have:=take_all9 (n:=1) (k:=2) hcs2 hvc; simpa using this
  have hcl:cells.length=n * 2:=by rw [← hct]; exact take_all9 hcs hnc
  refine (ins_growM w b vb n c i vc 1 cur cur2 cells news hi (by omega) hnc hroom (by omega) hvb hb hcs hct h1c hb2 hcs2 (by rw [Nat.one_mul]; exact hct2) h1v hvc).mono fun e' W' ⟨row,r1,h1,h2,h3,h4,W1,W2,a1,a2,a3,a4,a5,W3,b1,b2,b3,b4,b5⟩=>?_
  have hG:=grownCap_ge w (n+1) c 62
  have hl:=ins_list2 (cells:=cells) (news:=news) (row:=row) (r1:=r1) (I:=i * 2) (M:=1 * 2) (N:=n * 2) (C:=grownCap w (n+1) c 62 * 2) hcl h2 (by omega) (by omega) hM h3 h4
  have e3:(n+1) * 2=n * 2+1 * 2:=by omega
  have n1:W1.heap[w.heap.size]?=some (.cells row.toArray 62 (0,0)):=by rw [a4]; exact heap_alloc_new w _
  have n3:W3.heap[w.heap.size]?=some (.cells r1.toArray 62 (0,0)):=by rw [b4,a5]; exact setRow_heap W1 _ _ _ 62 _ n1
  have o1:∀ k,k < w.heap.size→W3.heap[k]?=w.heap[k]?:=fun k hk=>by
    rw [b4,a5,setRow_other _ _ _ _ (by omega),a4]; exact heap_alloc_old w _ hk
  have sz:W3.heap.size=w.heap.size+1:=by rw [b4,a5,setRow_size,a4]; simp
  subst b5
  refine ⟨_,h1,hG,grownCap_le_maxLen w (n+1) c 62 (by unfold maxLen; omega),⟨?_,?_,?_,?_,fun k hk _=>?_⟩,?_,_,setRow_heap W3 _ _ _ 62 _ n3,?_,?_⟩
  · rw [setRow_os,b1,a5,setRow_os,a1]
  · rw [setRow_tape,b2,a5,setRow_tape,a2]
  · rw [setRow_output,b3,a5,setRow_output,a3]
  · rw [setRow_size]; omega
  · rw [setRow_other _ _ _ _ (by omega)]; exact o1 k hk
  · rw [setRow_size]; omega
  · simp only [List.size_toArray]; exact hl.2
  · rw [e3]; exact hl.1
end
theorem c_Insert (l:List Part) (i:Nat) (v:List Part) (hi:i≤l.length) (hl:l.length≤1048576) (hv:v.length=1):Trip Tryz.prog 98 [(false,1),(false,1),(false,1)] ([.sl true 62 2 (List.map Part.co62 (l))]++[.v (.int .i64 ((i:Int)))]++[.sl true 62 2 (List.map Part.co62 (v))]) [(false,1)] [.sl true 62 2 (List.map Part.co62 ((l.take i++v++l.drop i)))] []:=by
  by_cases h:i=l.length
  · subst h
    have h9:=c_InsertE l (l.length:Int) v Y hl hv
    rw [List.take_of_length_le (Nat.le_refl _),List.drop_eq_nil_of_le (Nat.le_refl _),List.append_nil]
    exact h9
  · have h9:=Trip.insert (P:=Tryz.prog) (f:=98) (e:=62) (sz:=2) (i:=i) (l:=List.map Part.co62 l) (v:=List.map Part.co62 v) ⟨_,Tryz.func98,by decide,by decide⟩ ins_room ins_grow (by simpa using hv) (by simpa using hl) (by simp; omega)
    rw [← List.map_take,← List.map_drop,← List.map_append,← List.map_append] at h9
    exact h9


end Go.Proofs

namespace Go.Proofs
open Go Go.Proofs Go.Ev

theorem c_partsWith (l:List Part) (m:List Part) (F_f:FuncId) (first_f:List (Bool × List D)) (caps_f:List D) (f:Iv→Iv→Iv) (h_f:∀ (x0:Iv) (x1:Iv),FnTrip Tryz.prog F_f first_f caps_f [(true,2),(true,2)] (Iv.c x0++Iv.c x1) [(true,2)] [.v (.int .i64 ((f x0 x1).lo)),.v (.int .i64 ((f x0 x1).hi))]) (hd:∃ d,Parts.ok d l=true∧Parts.isIn d m=true):Trip Tryz.prog 48 [(false,1),(false,1),(false,1)] ([.sl false 62 2 (List.map Part.c62 (l))]++[.sl false 62 2 (List.map Part.c62 (m))]++[.fn F_f first_f caps_f]) [(false,1)] [.sl true 62 2 (List.map Part.co62 (uniI (zip2 (Env.joinW f)) l m m.length))] []:=by
 refine Trip.of Tryz.func48 (by decide) (c:=_) Y Y (Nat.le_of_ble_eq_true Y) Y (AftOk.nil _)<|.sl (t:=0) Y fun hs1l=>.sl (t:=1) Y fun hs2l=>?_
 obtain ⟨d9,hd9⟩:=hd
 have hk9:=parts_decl hd9.1
 have ha9:=(Parts.get (Parts.ok_in hd9.1)).2.1
 have hb9:=(Parts.get hd9.2).2.1
 have hm9:=parts_uni hd9.2
 refine .seq<|.rs fun k3=>.as Y<|.z<|.seq<|.rs fun k4=>.mv Y ?_
 refine .c0 (c_ownParts l (by first | assumption | omega | exact ((parts_uni (Parts.ok_in hd9.1)).small hk9 (by omega)).2 | exact (hm9.getP hk9 (by omega)) | exact ((hu9.1.q _ (partB_lt c1)).pair hk9 (hm9.q j (by omega))).1 | exact ((hu9.1.q _ (partB_lt c1)).pair hk9 (hm9.q j (by omega))).2.1 | exact ((hu9.1.q _ (partB_lt c1)).pair hk9 (hm9.q j (by omega))).2.2.1 | exact ((hu9.1.q _ (partB_lt c1)).pair hk9 (hm9.q j (by omega))).2.2.2 | exact (part_cut hu9.1.rise (hm9.rise.tok j (by omega))).1 | rfl) (by first | assumption | omega | exact ((parts_uni (Parts.ok_in hd9.1)).small hk9 (by omega)).2 | exact (hm9.getP hk9 (by omega)) | exact ((hu9.1.q _ (partB_lt c1)).pair hk9 (hm9.q j (by omega))).1 | exact ((hu9.1.q _ (partB_lt c1)).pair hk9 (hm9.q j (by omega))).2.1 | exact ((hu9.1.q _ (partB_lt c1)).pair hk9 (hm9.q j (by omega))).2.2.1 | exact ((hu9.1.q _ (partB_lt c1)).pair hk9 (hm9.q j (by omega))).2.2.2 | exact (part_cut hu9.1.rise (hm9.rise.tok j (by omega))).1 | rfl)) Y (.dd .nil) (.own [13,0] .nil) Y ?_
 refine .as Y<|.z<|.seq<|.seq<|.rs fun k5=>.mv Y<|.g (fun _ τ=>⟨_,.len (.no Y) Y (z:=(m.length:Int)) t29 Y Y Y (.d _ _) (map_len _ _) Y τ⟩)<|.mv Y<|.z ?_
 refine .block ?_
 refine .loop (X:=Nat × Nat × Nat) (fun ζ=>.of [(2,.one (.d (.fn F_f first_f caps_f))),(7,.one (.ref [13,0] (ζ.2.1))),(14,.one (.d (.sl false 62 2 (List.map Part.c62 (m))))),(15,.one (.d (.v (.int .i64 ((m.length:Int)))))),(16,.one (.d (.v (.int .i64 ((ζ.1:Int))))))] [([13,0],(ζ.2.1,ζ.2.2,.row 62 2 (List.map Part.co62 (uniI (zip2 (Env.joinW f)) l m ζ.1))))]) (fun ζ=>ζ.1≤m.length) (fun ζ=>m.length - ζ.1) ?_ ?_
 ·skip
  exact .here (0,(k4+1),(k4+1)) (.of (.cons Y (.cons (by show SV.one (.ref [13,0] (k4+1))=SV.one (.ref [13,0] ((k4+1))); first | rfl | simp_all) (.cons Y (.cons Y (.cons (svI (show (0)=((0:Int)) by first | rfl | omega | exact wrap_le (by omega) (by omega) | (rw [wrap_le (by omega) (by omega)]; omega))) .nil))))) (.cons (rowE (show List.map Part.co62 (l)=List.map Part.co62 (uniI (zip2 (Env.joinW f)) l m 0) by first | with_reducible rfl | rfl | exact congrArg _ (insP_T c1).symm | exact congrArg _ (insP_F c1).symm)) .nil)) (show 0≤m.length by omega)
 ·rintro ⟨j,q6,q7⟩ hI
  have hI:j≤m.length:=hI
  have hu9:=uni_run (f:=f) hd9 (j:=j) (by omega)
  dsimp only
  refine .seq<|.rs fun k8=>.bi Y<|.z<|.seq ?_
  refine .cond (t:=decide ((j:Int) < (m.length:Int))) Y (fun c0=>?_) (fun c0=>?_)
  ·have c0:=of_decide_eq_true c0
   refine .skip<|.seq<|.block<|.seq<|.rs fun k9=>.g (fun _ τ=>⟨_,.indexAddr (.no Y) Y (j) t29 Y t62 Y Y Y (.d _ _) Y Y Y (map_get (by first | omega | exact partB_lt c1)) Y Y τ⟩)<|.lda t62 Y (.d _) Y<|.g (fun _ τ=>⟨_,.alloc (.no Y) Y z62 Y Y Y τ⟩)<|.g (fun _ τ=>⟨_,.store (.no Y) Y t62 Y Y Y Y Y Y Y Y Y τ⟩) ?_
   refine .z<|.seq<|.rs fun k10=>.mv Y<|.fp t62 t49 Y<|.ld t49 Y (.ptr _ _ _ _ _ Y) Y ?_
   refine .g (fun _ τ=>⟨_,.call (.no Y) Y [[13,0]] [([13,0],(q6,q7,.row 62 2 (List.map Part.co62 (uniI (zip2 (Env.joinW f)) l m j))))] (c_partAt (uniI (zip2 (Env.joinW f)) l m j) ((m.getD j default).token) (by first | assumption | omega | exact ((parts_uni (Parts.ok_in hd9.1)).small hk9 (by omega)).2 | exact (hm9.getP hk9 (by omega)) | exact ((hu9.1.q _ (partB_lt c1)).pair hk9 (hm9.q j (by omega))).1 | exact ((hu9.1.q _ (partB_lt c1)).pair hk9 (hm9.q j (by omega))).2.1 | exact ((hu9.1.q _ (partB_lt c1)).pair hk9 (hm9.q j (by omega))).2.2.1 | exact ((hu9.1.q _ (partB_lt c1)).pair hk9 (hm9.q j (by omega))).2.2.2 | exact (part_cut hu9.1.rise (hm9.rise.tok j (by omega))).1 | rfl)) Y Y Y Y Y (.cons (Reads.ref (Frz.of_erase (erase_slo _ _ _ _ _ _ Part.co62_e)) (.head _) (.head _)).gives (.dd .nil)) Y Y (fun _=>(ownCons (Owned.v _) (ownCons (Owned.v _) ownNil))) (.own [24,0] (.own [24,1] .nil)) (.nil) Y Y Y (AllH.get (.r Y)) Y Y Y τ⟩) ?_
   refine .g (fun _ τ=>⟨_,.move (.no Y) Y Y Y Y τ⟩)<|.g (fun _ τ=>⟨_,.extract (.no Y) Y Y Y Y Y τ⟩)<|.g (fun _ τ=>⟨_,.extract (.no Y) Y Y Y Y Y τ⟩)<|.as Y<|.as Y<|.z<|.seq<|.rs fun k11=>.mv Y ?_
   refine .z ?_
   refine .cond (t:=partB (uniI (zip2 (Env.joinW f)) l m j) ((m.getD j default).token)) Y (fun c1=>?_) (fun c1=>?_)
   ·have c1:=c1
    refine .regD (X:=Nat) (by kernel_rfl) (fun ζ=>.of [(2,.one (.d (.fn F_f first_f caps_f))),(7,.one (.ref [13,0] (q6))),(14,.one (.d (.sl false 62 2 (List.map Part.c62 (m))))),(15,.one (.d (.v (.int .i64 ((m.length:Int)))))),(16,.one (.d (.v (.int .i64 ((j:Int))))))] [([13,0],(q6,ζ,.row 62 2 (List.map Part.co62 ((uniI (zip2 (Env.joinW f)) l m j).set (partI (uniI (zip2 (Env.joinW f)) l m j) ((m.getD j default).token)) (Part.mk (((uniI (zip2 (Env.joinW f)) l m j).getD (partI (uniI (zip2 (Env.joinW f)) l m j) ((m.getD j default).token)) default).token) (zip2 (Env.joinW f) (((uniI (zip2 (Env.joinW f)) l m j).getD (partI (uniI (zip2 (Env.joinW f)) l m j) ((m.getD j default).token)) default).table) ((m.getD j default).table)))))))]) [⟨[7],some 28,[],[]⟩,⟨[10],some 29,[],[]⟩,⟨[7],some 30,[],[]⟩,⟨[10],some 31,[],[]⟩,⟨[30,31],some 32,[[13,0]],[]⟩,⟨[32],some 33,[],[]⟩,⟨[33],some 34,[[13,0]],[]⟩,⟨[9],some 35,[],[]⟩,⟨[35],some 36,[[9]],[]⟩,⟨[2],some 37,[],[]⟩,⟨[34,36,37],some 38,[[13,0]],[[38,0]]⟩,⟨[28,29],some 39,[[13,0]],[]⟩,⟨[39],some 40,[],[]⟩,⟨[40,38],none,[[13,0],[38,0]],[[38,0],[13,0]]⟩] (by kernel_rfl) (fun k12=>?_) ?_
    ·skip
     refine .move (.no Y) Y Y Y Y<|.move (.no Y) Y Y Y Y<|.move (.no Y) Y Y Y Y<|.move (.no Y) Y Y Y Y<|.indexAddr (.no Y) Y (partI (uniI (zip2 (Env.joinW f)) l m j) ((m.getD j default).token)) t29 Y t62 Y Y Y (.ref _ _ _ _ _ Y) Y Y Y (map_get (by first | omega | exact partB_lt c1)) Y Y<|.fieldAddr (.no Y) Y t62 Y Y t60 Y Y Y Y [] (by simp) (by intro _ _ _ h; cases h) Y Y ?_
     refine .load (.no Y) Y t60 Y Y (At.as (cs':=[.view [13,0] (q7) (.sl false 98 3 (List.map Env.c98 (((uniI (zip2 (Env.joinW f)) l m j).getD (partI (uniI (zip2 (Env.joinW f)) l m j) ((m.getD j default).token)) default).table)))]) (.eptr _ _ _ _ _ _ _ _ _ Y (map_get (by first | omega | exact partB_lt c1))) (by simp [Part.co62,D.seen,erase_slo _ _ _ _ _ _ Entry.c_e,erase_slo _ _ _ _ _ _ Env.co98_e])) Y Y Y Y<|.fieldAddrP (.no Y) Y t62 Y Y t60 Y Y Y Y<|.load (.no Y) Y t60 Y Y (.ptr _ _ _ _ _ Y) Y Y Y Y<|.move (.no Y) Y Y Y Y ?_
     refine .call (.no Y) Y [[13,0]] [([13,0],(q6,q7,.row 62 2 (List.map Part.co62 (uniI (zip2 (Env.joinW f)) l m j))))] (c_tableWith (((uniI (zip2 (Env.joinW f)) l m j).getD (partI (uniI (zip2 (Env.joinW f)) l m j) ((m.getD j default).token)) default).table) ((m.getD j default).table) F_f first_f caps_f f h_f (by first | assumption | omega | exact ((parts_uni (Parts.ok_in hd9.1)).small hk9 (by omega)).2 | exact (hm9.getP hk9 (by omega)) | exact ((hu9.1.q _ (partB_lt c1)).pair hk9 (hm9.q j (by omega))).1 | exact ((hu9.1.q _ (partB_lt c1)).pair hk9 (hm9.q j (by omega))).2.1 | exact ((hu9.1.q _ (partB_lt c1)).pair hk9 (hm9.q j (by omega))).2.2.1 | exact ((hu9.1.q _ (partB_lt c1)).pair hk9 (hm9.q j (by omega))).2.2.2 | exact (part_cut hu9.1.rise (hm9.rise.tok j (by omega))).1 | rfl) (by first | assumption | omega | exact ((parts_uni (Parts.ok_in hd9.1)).small hk9 (by omega)).2 | exact (hm9.getP hk9 (by omega)) | exact ((hu9.1.q _ (partB_lt c1)).pair hk9 (hm9.q j (by omega))).1 | exact ((hu9.1.q _ (partB_lt c1)).pair hk9 (hm9.q j (by omega))).2.1 | exact ((hu9.1.q _ (partB_lt c1)).pair hk9 (hm9.q j (by omega))).2.2.1 | exact ((hu9.1.q _ (partB_lt c1)).pair hk9 (hm9.q j (by omega))).2.2.2 | exact (part_cut hu9.1.rise (hm9.rise.tok j (by omega))).1 | rfl) (by first | assumption | omega | exact ((parts_uni (Parts.ok_in hd9.1)).small hk9 (by omega)).2 | exact (hm9.getP hk9 (by omega)) | exact ((hu9.1.q _ (partB_lt c1)).pair hk9 (hm9.q j (by omega))).1 | exact ((hu9.1.q _ (partB_lt c1)).pair hk9 (hm9.q j (by omega))).2.1 | exact ((hu9.1.q _ (partB_lt c1)).pair hk9 (hm9.q j (by omega))).2.2.1 | exact ((hu9.1.q _ (partB_lt c1)).pair hk9 (hm9.q j (by omega))).2.2.2 | exact (part_cut hu9.1.rise (hm9.rise.tok j (by omega))).1 | rfl) (by first | assumption | omega | exact ((parts_uni (Parts.ok_in hd9.1)).small hk9 (by omega)).2 | exact (hm9.getP hk9 (by omega)) | exact ((hu9.1.q _ (partB_lt c1)).pair hk9 (hm9.q j (by omega))).1 | exact ((hu9.1.q _ (partB_lt c1)).pair hk9 (hm9.q j (by omega))).2.1 | exact ((hu9.1.q _ (partB_lt c1)).pair hk9 (hm9.q j (by omega))).2.2.1 | exact ((hu9.1.q _ (partB_lt c1)).pair hk9 (hm9.q j (by omega))).2.2.2 | exact (part_cut hu9.1.rise (hm9.rise.tok j (by omega))).1 | rfl)) Y Y Y Y Y (.cons (Reads.view (.head _) (.head _)).gives (.dd (.dd .nil))) Y Y (fun _=>(ownCons (Owned.map _ _ _ _ Env.co98_o) ownNil)) (.own [38,0] .nil) (.nil) Y Y Y (AllH.get (.r Y)) Y Y Y ?_
     refine .indexAddr (.no Y) Y (partI (uniI (zip2 (Env.joinW f)) l m j) ((m.getD j default).token)) t29 Y t62 Y Y Y (.ref _ _ _ _ _ Y) Y Y Y (map_get (by first | omega | exact partB_lt c1)) Y Y<|.fieldAddr (.no Y) Y t62 Y Y t60 Y Y Y Y [] (by simp) (by intro _ _ _ h; cases h) Y Y ?_
     refine .storeE (.no Y) Y (els':=List.map Part.co62 ((uniI (zip2 (Env.joinW f)) l m j).set (partI (uniI (zip2 (Env.joinW f)) l m j) ((m.getD j default).token)) (Part.mk (((uniI (zip2 (Env.joinW f)) l m j).getD (partI (uniI (zip2 (Env.joinW f)) l m j) ((m.getD j default).token)) default).token) (zip2 (Env.joinW f) (((uniI (zip2 (Env.joinW f)) l m j).getD (partI (uniI (zip2 (Env.joinW f)) l m j) ((m.getD j default).token)) default).table) ((m.getD j default).table))))) t60 Y Y Y Y (map_get (by first | omega | exact partB_lt c1)) Y Y (.cons _ _ _ _ _ _ (.ref _ _ _ _ _ _ Y) .nil) Y (Nat.le_of_ble_eq_true Y) (set_map _ _ _ (Part.mk (((uniI (zip2 (Env.joinW f)) l m j).getD (partI (uniI (zip2 (Env.joinW f)) l m j) ((m.getD j default).token)) default).token) (zip2 (Env.joinW f) (((uniI (zip2 (Env.joinW f)) l m j).getD (partI (uniI (zip2 (Env.joinW f)) l m j) ((m.getD j default).token)) default).table) ((m.getD j default).table))) _ Y) Y Y ?_
     exact .fin (k12+1+1+1+1+1+1+1+1+1+1+1+1+1) (.of (.r Y) (.r Y))
    intro g13
    refine .rs fun k14=>.bi Y<|.mv Y<|.z ?_
    exact .here ((j+1),q6,g13) (.of (.cons Y (.cons Y (.cons Y (.cons Y (.cons (svI (show (IntKind.wrap .i64 ((j:Int)+1))=(((j+1):Int)) by first | rfl | omega | exact wrap_le (by omega) (by omega) | (rw [wrap_le (by omega) (by omega)]; omega))) .nil))))) (.cons (rowE (show List.map Part.co62 ((uniI (zip2 (Env.joinW f)) l m j).set (partI (uniI (zip2 (Env.joinW f)) l m j) ((m.getD j default).token)) (Part.mk (((uniI (zip2 (Env.joinW f)) l m j).getD (partI (uniI (zip2 (Env.joinW f)) l m j) ((m.getD j default).token)) default).token) (zip2 (Env.joinW f) (((uniI (zip2 (Env.joinW f)) l m j).getD (partI (uniI (zip2 (Env.joinW f)) l m j) ((m.getD j default).token)) default).table) ((m.getD j default).table))))=List.map Part.co62 (uniI (zip2 (Env.joinW f)) l m (j+1)) by first | with_reducible rfl | rfl | exact congrArg _ (insP_T c1).symm | exact congrArg _ (insP_F c1).symm)) .nil)) ⟨(show (j+1)≤m.length by omega),(show m.length - (j+1) < m.length - j by omega)⟩
   ·have c1:=c1
    refine .rs fun k15=>.mv Y<|.mv Y<|.lda t62 Y (.ptr _ _ _ _ _ Y) Y<|.c0 (c_pown (m.getD j default) (by first | assumption | omega | exact ((parts_uni (Parts.ok_in hd9.1)).small hk9 (by omega)).2 | exact (hm9.getP hk9 (by omega)) | exact ((hu9.1.q _ (partB_lt c1)).pair hk9 (hm9.q j (by omega))).1 | exact ((hu9.1.q _ (partB_lt c1)).pair hk9 (hm9.q j (by omega))).2.1 | exact ((hu9.1.q _ (partB_lt c1)).pair hk9 (hm9.q j (by omega))).2.2.1 | exact ((hu9.1.q _ (partB_lt c1)).pair hk9 (hm9.q j (by omega))).2.2.2 | exact (part_cut hu9.1.rise (hm9.rise.tok j (by omega))).1 | rfl)) Y (.dd (.dd .nil)) (.own [44,0] (.own [44,1] .nil)) Y ?_
    refine .g (fun _ τ=>⟨_,.buildSlice (.no Y) Y (els:=[[.sl true 115 2 (List.map Entry.c ((m.getD j default).token)),.sl true 98 3 (List.map Env.co98 ((m.getD j default).table))]]) t29 Y z62 Y Y Y Y Y Y Y Y (by simp [i62]) (.cons _ _ _ _ _ _ (.ref _ _ _ _ _ _ Y) (.cons _ _ _ _ _ _ (.ref _ _ _ _ _ _ Y) .nil)) Y Y Y τ⟩) ?_
    refine .g (fun _ τ=>⟨_,.call (.no Y) Y [] [([13,0],(q6,q7,.row 62 2 (List.map Part.co62 (uniI (zip2 (Env.joinW f)) l m j)))),([45],(k15+1+1+1+1,k15+1+1+1+1,.row 62 2 ([[.sl true 115 2 (List.map Entry.c ((m.getD j default).token)),.sl true 98 3 (List.map Env.co98 ((m.getD j default).table))]])))] (c_Insert (uniI (zip2 (Env.joinW f)) l m j) (partI (uniI (zip2 (Env.joinW f)) l m j) ((m.getD j default).token)) [(m.getD j default)] (by first | assumption | omega | exact ((parts_uni (Parts.ok_in hd9.1)).small hk9 (by omega)).2 | exact (hm9.getP hk9 (by omega)) | exact ((hu9.1.q _ (partB_lt c1)).pair hk9 (hm9.q j (by omega))).1 | exact ((hu9.1.q _ (partB_lt c1)).pair hk9 (hm9.q j (by omega))).2.1 | exact ((hu9.1.q _ (partB_lt c1)).pair hk9 (hm9.q j (by omega))).2.2.1 | exact ((hu9.1.q _ (partB_lt c1)).pair hk9 (hm9.q j (by omega))).2.2.2 | exact (part_cut hu9.1.rise (hm9.rise.tok j (by omega))).1 | rfl) (by first | assumption | omega | exact ((parts_uni (Parts.ok_in hd9.1)).small hk9 (by omega)).2 | exact (hm9.getP hk9 (by omega)) | exact ((hu9.1.q _ (partB_lt c1)).pair hk9 (hm9.q j (by omega))).1 | exact ((hu9.1.q _ (partB_lt c1)).pair hk9 (hm9.q j (by omega))).2.1 | exact ((hu9.1.q _ (partB_lt c1)).pair hk9 (hm9.q j (by omega))).2.2.1 | exact ((hu9.1.q _ (partB_lt c1)).pair hk9 (hm9.q j (by omega))).2.2.2 | exact (part_cut hu9.1.rise (hm9.rise.tok j (by omega))).1 | rfl) (by first | assumption | omega | exact ((parts_uni (Parts.ok_in hd9.1)).small hk9 (by omega)).2 | exact (hm9.getP hk9 (by omega)) | exact ((hu9.1.q _ (partB_lt c1)).pair hk9 (hm9.q j (by omega))).1 | exact ((hu9.1.q _ (partB_lt c1)).pair hk9 (hm9.q j (by omega))).2.1 | exact ((hu9.1.q _ (partB_lt c1)).pair hk9 (hm9.q j (by omega))).2.2.1 | exact ((hu9.1.q _ (partB_lt c1)).pair hk9 (hm9.q j (by omega))).2.2.2 | exact (part_cut hu9.1.rise (hm9.rise.tok j (by omega))).1 | rfl)) Y Y Y Y Y (.cons (.ref (.head _)) (.dd (.cons (.ref (.tail _ (.head _))) .nil))) Y Y (fun h=>absurd Y h) (.own [46,0] .nil) (.nil) Y Y Y (AllH.get (.r Y)) Y Y Y τ⟩) ?_
    refine .as Y<|.z<|.movRow 7 [46,0] [13,0] Y Y (by decide) fun k16=>.rs fun k17=>.bi Y<|.mv Y<|.z ?_
    exact .here ((j+1),k16,k16) (.of (.cons Y (.cons Y (.cons Y (.cons Y (.cons (svI (show (IntKind.wrap .i64 ((j:Int)+1))=(((j+1):Int)) by first | rfl | omega | exact wrap_le (by omega) (by omega) | (rw [wrap_le (by omega) (by omega)]; omega))) .nil))))) (.cons (rowE (show List.map Part.co62 (((uniI (zip2 (Env.joinW f)) l m j).take (partI (uniI (zip2 (Env.joinW f)) l m j) ((m.getD j default).token))++[(m.getD j default)]++(uniI (zip2 (Env.joinW f)) l m j).drop (partI (uniI (zip2 (Env.joinW f)) l m j) ((m.getD j default).token))))=List.map Part.co62 (uniI (zip2 (Env.joinW f)) l m (j+1)) by first | with_reducible rfl | rfl | exact congrArg _ (insP_T c1).symm | exact congrArg _ (insP_F c1).symm)) .nil)) ⟨(show (j+1)≤m.length by omega),(show m.length - (j+1) < m.length - j by omega)⟩
  ·have c0:=of_decide_eq_false c0
   refine .exit<|.seq<|.rs fun k18=>.mv Y<|.as Y<|.z<|.ret ?_
   have e19:(uniI (zip2 (Env.joinW f)) l m j)=(uniI (zip2 (Env.joinW f)) l m m.length):=by (have hj9:j=m.length:=(by omega); rw [hj9])
   exact fin1 (.inr Y) [] [([13,0],(q6,q7,.row 62 2 (List.map Part.co62 (uniI (zip2 (Env.joinW f)) l m m.length))))] (.one Y .nil) (.cons (.ref (.head _)) .nil) Y Y (.cons (rowE (congrArg (List.map Part.co62) e19)) .nil)
theorem c_few (l:List Part):Trip Tryz.prog 47 [(false,1)] ([.sl true 62 2 (List.map Part.co62 (l))]) [(false,1)] [.sl true 62 2 (List.map Part.co62 (fewV l))] []:=by
 refine Trip.of Tryz.func47 (by decide) (c:=_) Y Y (Nat.le_of_ble_eq_true Y) Y (AftOk.nil _)<|.seq<|.rs fun k1=>.as Y<|.z<|.seq<|.seq<|.rs fun k2=>.mv Y ?_
 refine .g (fun _ τ=>⟨_,.len (.no Y) Y (z:=(l.length:Int)) t29 Y Y Y (.ref _ _ _ _ _ Y) (map_len _ _) Y τ⟩)<|.bi Y<|.z ?_
 refine .cond (t:=decide ((l.length:Int) > 100)) Y (fun c0=>?_) (fun c0=>?_)
 ·have c0:=of_decide_eq_true c0
  refine .seq<|.rs fun k3=>.as Y<|.z<|.ret ?_
  exact fin0 (.inr Y) (.one Y .nil) (.cons (Gives.nil' (by (rw [fewV_no c0]; rfl))) .nil) Y
 ·have c0:=of_decide_eq_false c0
  refine .skip<|.seq<|.rs fun k4=>.mv Y<|.as Y<|.z<|.ret ?_
  have e5:(l)=(fewV l):=by (rw [fewV_yes c0])
  exact fin1 (.inr Y) [] [([0,0,0],(0,0,.row 62 2 (List.map Part.co62 (fewV l))))] (.one Y .nil) (.cons (.ref (.head _)) .nil) Y Y (.cons (rowE (congrArg (List.map Part.co62) e5)) .nil)
end Go.Proofs

namespace Go.Proofs
open Go Go.Proofs Go.Ev

theorem c_l9Union (a:List Part) (b:List Part) (w:Bool) (s:List Int) (hu:UniRun w s a b) (hl:s.length≤1048576):Trip Tryz.prog 42 [(false,1),(false,1),(false,1),(false,1)] ([.sl false 62 2 (List.map Part.c62 (a))]++[.sl false 62 2 (List.map Part.c62 (b))]++[.v (.bool (w))]++[.sl false 2 1 (List.map i64c (s))]) [(false,1)] [.sl false 62 2 (List.map Part.c62 (uniS (putF w s) a b b.length))] []:=by
 refine Trip.of Tryz.func42 (by decide) (c:=_) Y Y (Nat.le_of_ble_eq_true Y) Y (AftOk.nil _)<|.sl (t:=0) Y fun hs1l=>.sl (t:=1) Y fun hs2l=>.sl (t:=3) Y fun hs3l=>.seq<|.rs fun k4=>.as Y<|.z<|.seq ?_
 refine .rs fun k5=>.mv Y<|.as Y<|.z<|.seq<|.seq<|.rs fun k6=>.as Y<|.z ?_
 refine .block ?_
 refine .loop (X:=Nat) (fun ζ=>.of [(1,.one (.d (.sl false 62 2 (List.map Part.c62 (b))))),(2,.one (.d (.v (.bool (w))))),(3,.one (.d (.sl false 2 1 (List.map i64c (s))))),(9,.one (.d (.sl false 62 2 (List.map Part.c62 (uniS (putF w s) a b ζ))))),(10,.one (.d (.v (.int .i64 ((ζ:Int))))))] []) (fun ζ=>ζ≤b.length) (fun ζ=>b.length - ζ) ?_ ?_
 ·skip
  exact .here 0 (.of (.cons Y (.cons Y (.cons Y (.cons (by show SV.one (.d (.sl false 62 2 (List.map Part.c62 (a))))=SV.one (.d (.sl false 62 2 (List.map Part.c62 (uniS (putF w s) a b 0)))); first | rfl | with_reducible rfl) (.cons (svI (show (0)=((0:Int)) by first | rfl | omega | exact wrap_le (by omega) (by omega) | (rw [wrap_le (by omega) (by omega)]; omega))) .nil))))) .nil) (show 0≤b.length by omega)
 ·rintro j hI
  have hI:j≤b.length:=hI
  refine .seq<|.seq<|.rs fun k7=>.mv Y<|.mv Y<|.g (fun _ τ=>⟨_,.len (.no Y) Y (z:=(b.length:Int)) t29 Y Y Y (.d _ _) (map_len _ _) Y τ⟩)<|.bi Y<|.z ?_
  refine .cond (t:=decide ((j:Int) < (b.length:Int))) Y (fun c0=>?_) (fun c0=>?_)
  ·have c0:=of_decide_eq_true c0
   refine .skip<|.seq<|.block<|.rs fun k8=>.mv Y<|.mv Y<|.mv Y<|.g (fun _ τ=>⟨_,.indexAddr (.no Y) Y (j) t29 Y t62 Y Y Y (.d _ _) Y Y Y (map_get (by omega)) Y Y τ⟩)<|.lda t62 Y (.d _) Y ?_
   refine .mv Y<|.mv Y ?_
   refine .c0 (c_l9Put (uniS (putF w s) a b j) (b.getD j default) w s (by first | exact (hu j (by omega)).1 | exact (hu j (by omega)).2.2 | exact fun i hi=>((hu j (by omega)).2.1 i hi).1 | exact fun i hi=>((hu j (by omega)).2.1 i hi).2 | exact hl) (by first | exact (hu j (by omega)).1 | exact (hu j (by omega)).2.2 | exact fun i hi=>((hu j (by omega)).2.1 i hi).1 | exact fun i hi=>((hu j (by omega)).2.1 i hi).2 | exact hl) (by first | exact (hu j (by omega)).1 | exact (hu j (by omega)).2.2 | exact fun i hi=>((hu j (by omega)).2.1 i hi).1 | exact fun i hi=>((hu j (by omega)).2.1 i hi).2 | exact hl) (by first | exact (hu j (by omega)).1 | exact (hu j (by omega)).2.2 | exact fun i hi=>((hu j (by omega)).2.1 i hi).1 | exact fun i hi=>((hu j (by omega)).2.1 i hi).2 | exact hl) (by first | exact (hu j (by omega)).1 | exact (hu j (by omega)).2.2 | exact fun i hi=>((hu j (by omega)).2.1 i hi).1 | exact fun i hi=>((hu j (by omega)).2.1 i hi).2 | exact hl)) Y (.dd (.dd (.dd (.dd (.dd .nil))))) (.frz [25,0] (Frz.of_erase (erase_slo _ _ _ _ _ _ Part.c62_e)) .nil) Y ?_
   refine .as Y<|.z<|.rs fun k9=>.mv Y<|.bi Y<|.as Y<|.z ?_
   exact .here (j+1) (.of (.cons Y (.cons Y (.cons Y (.cons (by show SV.one (.d (.sl false 62 2 (List.map Part.c62 (putV (putF w s) (uniS (putF w s) a b j) (b.getD j default)))))=SV.one (.d (.sl false 62 2 (List.map Part.c62 (uniS (putF w s) a b (j+1))))); first | rfl | with_reducible rfl) (.cons (svI (show (IntKind.wrap .i64 ((j:Int)+1))=(((j+1):Int)) by first | rfl | omega | exact wrap_le (by omega) (by omega) | (rw [wrap_le (by omega) (by omega)]; omega))) .nil))))) .nil) ⟨(show (j+1)≤b.length by omega),(show b.length - (j+1) < b.length - j by omega)⟩
  ·have c0:=of_decide_eq_false c0
   refine .exit<|.seq<|.rs fun k10=>.mv Y<|.as Y<|.z<|.ret ?_
   have e11:(uniS (putF w s) a b j)=(uniS (putF w s) a b b.length):=by (have hj9:j=b.length:=(by omega); rw [hj9])
   have hc12:=eq1 (fun z1=>SV.one (.d (.sl false 62 2 (List.map Part.c62 (z1))))) e11
   exact fin0 (.inr Y) (.one (c:=.d (.sl false 62 2 (List.map Part.c62 (uniS (putF w s) a b b.length)))) (hc12) .nil) (.dd .nil) Y
theorem c_sPartsWiden (d:Decl) (a:List Part) (b:List Part) (s:List Int) (hs:∀ x∈Decl.names d,x.size≤9223372036854775807) (hd:d.vars.length≤1048576∧d.flags.length≤1048576∧d.arrays.length≤1048576) (hx:SmallP a) (hy:SmallP b):Trip Tryz.prog 18 [(true,3),(false,1),(false,1),(false,1)] (Decl.c33 d++[.sl false 62 2 (List.map Part.c62 (a))]++[.sl false 62 2 (List.map Part.c62 (b))]++[.sl false 2 1 (List.map i64c (s))]) [(false,1)] [.sl true 62 2 (List.map Part.co62 (Parts.widenIn d a b s))] []:=by
 refine Trip.of Tryz.func18 (by decide) (c:=_) Y Y (Nat.le_of_ble_eq_true Y) Y (AftOk.nil _)<|.sla (t:=0) 0 Y Y fun hs1l=>.sla (t:=0) 1 Y Y fun hs2l=>.sla (t:=0) 2 Y Y fun hs3l=>.sl (t:=1) Y fun hs4l=>.sl (t:=2) Y fun hs5l=>.sl (t:=3) Y fun hs6l=>.seq<|.rs fun k7=>?_
 refine .g (fun _ τ=>⟨_,.box (.no Y) Y Y Y Y Y τ⟩)<|.as Y<|.z<|.seq<|.seq ?_
 refine .reg (X:=Unit) (fun ζ=>.of [(1,.one (.d (.sl false 62 2 (List.map Part.c62 (a))))),(2,.one (.d (.sl false 62 2 (List.map Part.c62 (b))))),(3,.one (.d (.sl false 2 1 (List.map i64c (s))))),(23,.one (.d (.v (.bool (((!(Parts.ok d a)||!(Parts.ok d b))||decide ((s.length:Int) > 100)))))))] []) [⟨[4],some 9,[[4]],[]⟩,⟨[1],some 10,[],[]⟩,⟨[9,10],some 11,[],[]⟩,⟨[11],some 12,[],[]⟩,⟨[12],some 13,[],[]⟩,⟨[13,4],some 14,[[4]],[]⟩,⟨[13,2],some 15,[],[]⟩,⟨[13,14,15],some 16,[],[]⟩,⟨[13,16],some 17,[],[]⟩,⟨[13,17],some 18,[],[]⟩,⟨[18],some 19,[],[]⟩,⟨[19,3],some 20,[],[]⟩,⟨[19,20],some 21,[],[]⟩,⟨[19,21],some 22,[],[]⟩,⟨[19,22],some 23,[],[]⟩] (fun k8=>?_) ?_
 ·skip
  refine .load (.no Y) Y t33 Y Y (.ptr _ _ _ _ _ Y) Y Y Y Y<|.move (.no Y) Y Y Y Y ?_
  refine .call (.no Y) Y [] [] (c_sPartsOk d a (by first | assumption | exact uni_runS h2 | omega | exact ((uniS_run h2 (Nat.le_refl _)).1.small (parts_decl h2.1) (by have:=(uniS_run (w:=true) (s:=s) h2 (Nat.le_refl b.length)).2; omega)).2 | (have:=(uniS_run (w:=true) (s:=s) h2 (Nat.le_refl b.length)).2; omega)) (by first | assumption | exact uni_runS h2 | omega | exact ((uniS_run h2 (Nat.le_refl _)).1.small (parts_decl h2.1) (by have:=(uniS_run (w:=true) (s:=s) h2 (Nat.le_refl b.length)).2; omega)).2 | (have:=(uniS_run (w:=true) (s:=s) h2 (Nat.le_refl b.length)).2; omega)) (by first | assumption | exact uni_runS h2 | omega | exact ((uniS_run h2 (Nat.le_refl _)).1.small (parts_decl h2.1) (by have:=(uniS_run (w:=true) (s:=s) h2 (Nat.le_refl b.length)).2; omega)).2 | (have:=(uniS_run (w:=true) (s:=s) h2 (Nat.le_refl b.length)).2; omega))) Y Y Y Y Y (.dd (.dd (.dd (.dd .nil)))) Y Y (fun h=>absurd Y h) (.own [11,0] .nil) (.nil) Y Y Y (by simp) Y Y Y ?_
  refine .un (.no Y) Y Y Y Y Y<|.moveB (.no Y) Y Y Y Y fun b9 g1_4=>?_
  cases b9
  ·skip
   refine .load (.on Y Y Y Y Y) Y t33 Y Y (.ptr _ _ _ _ _ Y) Y Y Y Y<|.move (.on Y Y Y Y Y) Y Y Y Y ?_
   refine .call (.on Y Y Y Y Y) Y [] [] (c_sPartsOk d b (by first | assumption | exact uni_runS h2 | omega | exact ((uniS_run h2 (Nat.le_refl _)).1.small (parts_decl h2.1) (by have:=(uniS_run (w:=true) (s:=s) h2 (Nat.le_refl b.length)).2; omega)).2 | (have:=(uniS_run (w:=true) (s:=s) h2 (Nat.le_refl b.length)).2; omega)) (by first | assumption | exact uni_runS h2 | omega | exact ((uniS_run h2 (Nat.le_refl _)).1.small (parts_decl h2.1) (by have:=(uniS_run (w:=true) (s:=s) h2 (Nat.le_refl b.length)).2; omega)).2 | (have:=(uniS_run (w:=true) (s:=s) h2 (Nat.le_refl b.length)).2; omega)) (by first | assumption | exact uni_runS h2 | omega | exact ((uniS_run h2 (Nat.le_refl _)).1.small (parts_decl h2.1) (by have:=(uniS_run (w:=true) (s:=s) h2 (Nat.le_refl b.length)).2; omega)).2 | (have:=(uniS_run (w:=true) (s:=s) h2 (Nat.le_refl b.length)).2; omega))) Y Y Y Y Y (.dd (.dd (.dd (.dd .nil)))) Y Y (fun h=>absurd Y h) (.own [16,0] .nil) (.nil) Y Y Y (by simp) Y Y Y ?_
   refine .un (.on Y Y Y Y Y) Y Y Y Y Y<|.pick (.no Y) Y Y Y Y Y<|.moveB (.no Y) Y Y Y Y fun b10 g1_10=>?_
   cases b10
   ·skip
    refine .move (.on Y Y Y Y Y) Y Y Y Y<|.len (.on Y Y Y Y Y) Y (z:=(s.length:Int)) t41 Y Y Y (.d _ _) (map_len _ _) Y<|.bin (.on Y Y Y Y Y) Y Y Y Y Y Y<|.pick (.no Y) Y Y Y Y Y ?_
    exact .fin () (.of (.cons Y (.cons Y (.cons Y (.cons (svB (show (decide ((s.length:Int) > 100))=(((!(Parts.ok d a)||!(Parts.ok d b))||decide ((s.length:Int) > 100))) by first | (simp only [g1_4,g1_10,Bool.true_or,Bool.false_or,Bool.true_and,Bool.false_and,Bool.not_true,Bool.not_false]; done) | (simp [g1_4,g1_10]; done) | (exfalso; simp_all; done))) .nil)))) .nil)
   ·skip
    refine .off Y Y Y Y Y Y Y<|.off Y Y Y Y Y Y Y<|.off Y Y Y Y Y Y Y<|.pick (.no Y) Y Y Y Y Y ?_
    exact .fin () (.of (.cons Y (.cons Y (.cons Y (.cons (svB (show (true)=(((!(Parts.ok d a)||!(Parts.ok d b))||decide ((s.length:Int) > 100))) by first | (simp only [g1_4,g1_10,Bool.true_or,Bool.false_or,Bool.true_and,Bool.false_and,Bool.not_true,Bool.not_false]; done) | (simp [g1_4,g1_10]; done) | (exfalso; simp_all; done))) .nil)))) .nil)
  ·skip
   refine .off Y Y Y Y Y Y Y<|.off Y Y Y Y Y Y Y<|.off Y Y Y Y Y Y Y<|.off Y Y Y Y Y Y Y<|.pick (.no Y) Y Y Y Y Y<|.move (.no Y) Y Y Y Y<|.off Y Y Y Y Y Y Y<|.off Y Y Y Y Y Y Y<|.off Y Y Y Y Y Y Y ?_
   refine .pick (.no Y) Y Y Y Y Y ?_
   exact .fin () (.of (.cons Y (.cons Y (.cons Y (.cons (svB (show (true)=(((!(Parts.ok d a)||!(Parts.ok d b))||decide ((s.length:Int) > 100))) by first | (simp only [g1_4,Bool.true_or,Bool.false_or,Bool.true_and,Bool.false_and,Bool.not_true,Bool.not_false]; done) | (simp [g1_4]; done) | (exfalso; simp_all; done))) .nil)))) .nil)
 intro _
 refine .cond (t:=((!(Parts.ok d a)||!(Parts.ok d b))||decide ((s.length:Int) > 100))) Y (fun c0=>?_) (fun c0=>?_)
 ·have c0:=(oT (oT (nT id) (nT id)) dT) c0
  refine .seq<|.rs fun k11=>.as Y<|.z<|.ret ?_
  exact fin0 (.inr Y) (.one Y .nil) (.cons (Gives.nil' (by (rw [pwiden_no c0]; rfl))) .nil) Y
 ·have c0:=(oF (oF (nF id) (nF id)) dF) c0
  have h2:Parts.ok d a=true∧Parts.isIn d b=true:=⟨c0.1.1,by rw [← Parts.ok_two c0.1.1]; exact c0.1.2⟩
  have ha9:=(Parts.get (Parts.ok_in h2.1)).2.1
  have hb9:=(Parts.get h2.2).2.1
  refine .skip<|.seq<|.rs fun k12=>.mv Y<|.mv Y<|.mv Y<|.c0 (c_l9Union a b true s (by first | assumption | exact uni_runS h2 | omega | exact ((uniS_run h2 (Nat.le_refl _)).1.small (parts_decl h2.1) (by have:=(uniS_run (w:=true) (s:=s) h2 (Nat.le_refl b.length)).2; omega)).2 | (have:=(uniS_run (w:=true) (s:=s) h2 (Nat.le_refl b.length)).2; omega)) (by first | assumption | exact uni_runS h2 | omega | exact ((uniS_run h2 (Nat.le_refl _)).1.small (parts_decl h2.1) (by have:=(uniS_run (w:=true) (s:=s) h2 (Nat.le_refl b.length)).2; omega)).2 | (have:=(uniS_run (w:=true) (s:=s) h2 (Nat.le_refl b.length)).2; omega))) Y (.dd (.dd (.dd (.dd .nil)))) (.own [27,0] .nil) Y ?_
  refine .c0 (c_l9Fresh (uniS (putF true s) a b b.length) (by first | assumption | exact uni_runS h2 | omega | exact ((uniS_run h2 (Nat.le_refl _)).1.small (parts_decl h2.1) (by have:=(uniS_run (w:=true) (s:=s) h2 (Nat.le_refl b.length)).2; omega)).2 | (have:=(uniS_run (w:=true) (s:=s) h2 (Nat.le_refl b.length)).2; omega)) (by first | assumption | exact uni_runS h2 | omega | exact ((uniS_run h2 (Nat.le_refl _)).1.small (parts_decl h2.1) (by have:=(uniS_run (w:=true) (s:=s) h2 (Nat.le_refl b.length)).2; omega)).2 | (have:=(uniS_run (w:=true) (s:=s) h2 (Nat.le_refl b.length)).2; omega))) Y (.dd .nil) (.own [28,0] .nil) Y<|.as Y<|.z<|.ret ?_
  have e13:(fewV (uniS (putF true s) a b b.length))=(Parts.widenIn d a b s):=by (rw [pwiden_yes2 ⟨h2,c0.2⟩,← pwiden_S h2])
  exact fin1 (.inr Y) [] [([28,0],(k12+1+1+1+1,k12+1+1+1+1,.row 62 2 (List.map Part.co62 (Parts.widenIn d a b s))))] (.one Y .nil) (.cons (.ref (.head _)) .nil) Y Y (.cons (rowE (congrArg (List.map Part.co62) e13)) .nil)
theorem c_PartsJoin (d:Decl) (a:List Part) (b:List Part) (hs:∀ x∈Decl.names d,x.size≤9223372036854775807) (hb:d.vars.length≤1048576∧d.flags.length≤1048576∧d.arrays.length≤1048576):Trip Tryz.prog 12 [(true,3),(false,1),(false,1)] (Decl.c33 d++[.sl false 62 2 (List.map Part.c62 (a))]++[.sl false 62 2 (List.map Part.c62 (b))]) [(false,1)] [.sl true 62 2 (List.map Part.co62 (Parts.joinIn d a b))] []:=by
 refine Trip.of Tryz.func12 (by decide) (c:=_) Y Y (Nat.le_of_ble_eq_true Y) Y (AftOk.nil _)<|.sla (t:=0) 0 Y Y fun hs1l=>.sla (t:=0) 1 Y Y fun hs2l=>.sla (t:=0) 2 Y Y fun hs3l=>.sl (t:=1) Y fun hs4l=>.sl (t:=2) Y fun hs5l=>.seq<|.rs fun k6=>.g (fun _ τ=>⟨_,.box (.no Y) Y Y Y Y Y τ⟩) ?_
 refine .as Y<|.z<|.seq<|.seq<|.rs fun k7=>.lda t33 Y (.ptr _ _ _ _ _ Y) Y<|.mv Y<|.mv Y<|.c0 (c_areBoth d a b (by first | assumption | exact ⟨d,h2⟩) (by first | assumption | exact ⟨d,h2⟩)) Y (.dd (.dd (.dd (.dd (.dd .nil))))) (.own [10,0] .nil) Y ?_
 refine .un Y<|.z ?_
 refine .cond (t:=!(Parts.ok d a&&Parts.isIn d b)) Y (fun c0=>?_) (fun c0=>?_)
 ·have c0:=(nT (aF id id)) c0
  have h3:Parts.ok d a=false∨Parts.isIn d b=false:=(by cases h8:Parts.ok d a<;>cases h9:Parts.isIn d b<;>simp_all)
  refine .seq<|.rs fun k8=>.as Y<|.z<|.ret ?_
  exact fin0 (.inr Y) (.one Y .nil) (.cons (Gives.nil' (by (rw [pjoin_no2 h3]; rfl))) .nil) Y
 ·have c0:=(nF (aT id id)) c0
  have h2:Parts.ok d a=true∧Parts.isIn d b=true:=(by simpa [Bool.and_eq_true] using c0)
  refine .skip<|.seq<|.rs fun k9=>.mv Y<|.mv Y<|.c0 (c_partsWith a b 49 [] [] (fun x0 x1=>Iv.joinOk x0 x1) (fun x0 x1=>c_IvJoin x0 x1) (by first | assumption | exact ⟨d,h2⟩)) Y (.dd (.dd (.dd .nil))) (.own [14,0] .nil) Y<|.g (fun _ τ=>⟨_,.call (.no Y) Y [] [([14,0],(k9+1+1,k9+1+1,.row 62 2 (List.map Part.co62 (uniI (zip2 (Env.joinW (fun x0 x1=>Iv.joinOk x0 x1))) a b b.length))))] (c_few (uniI (zip2 (Env.joinW (fun x0 x1=>Iv.joinOk x0 x1))) a b b.length)) Y Y Y Y Y (.cons (.ref (.head _)) .nil) Y Y (fun h=>absurd Y h) (.own [15,0] .nil) (.nil) Y Y Y (AllH.get (.r Y)) Y Y Y τ⟩)<|.as Y<|.z ?_
  refine .ret ?_
  have e10:(fewV (uniI (zip2 (Env.joinW (fun x0 x1=>Iv.joinOk x0 x1))) a b b.length))=(Parts.joinIn d a b):=by (rw [pjoin_yes2 h2])
  exact fin1 (.inr Y) [] [([15,0],(k9+1+1+1,k9+1+1+1,.row 62 2 (List.map Part.co62 (Parts.joinIn d a b))))] (.one Y .nil) (.cons (.ref (.head _)) .nil) Y Y (.cons (rowE (congrArg (List.map Part.co62) e10)) .nil)
theorem c_PartsWiden (d:Decl) (a:List Part) (b:List Part) (s:List Int) (hs:∀ x∈Decl.names d,x.size≤9223372036854775807) (hb:d.vars.length≤1048576∧d.flags.length≤1048576∧d.arrays.length≤1048576):Trip Tryz.prog 20 [(true,3),(false,1),(false,1),(false,1)] (Decl.c33 d++[.sl false 62 2 (List.map Part.c62 (a))]++[.sl false 62 2 (List.map Part.c62 (b))]++[.sl false 2 1 (List.map i64c (s))]) [(false,1)] [.sl true 62 2 (List.map Part.co62 (Parts.widenIn d a b s))] []:=by
 refine Trip.of Tryz.func20 (by decide) (c:=_) Y Y (Nat.le_of_ble_eq_true Y) Y (AftOk.nil _)<|.sla (t:=0) 0 Y Y fun hs1l=>.sla (t:=0) 1 Y Y fun hs2l=>.sla (t:=0) 2 Y Y fun hs3l=>.sl (t:=1) Y fun hs4l=>.sl (t:=2) Y fun hs5l=>.sl (t:=3) Y fun hs6l=>.seq<|.rs fun k7=>?_
 refine .g (fun _ τ=>⟨_,.box (.no Y) Y Y Y Y Y τ⟩)<|.as Y<|.z<|.seq<|.seq ?_
 refine .reg (X:=Unit) (fun ζ=>.of [(1,.one (.d (.sl false 62 2 (List.map Part.c62 (a))))),(2,.one (.d (.sl false 62 2 (List.map Part.c62 (b))))),(3,.one (.d (.sl false 2 1 (List.map i64c (s))))),(18,.one (.d (.v (.bool ((!(Parts.ok d a&&Parts.isIn d b)||decide ((s.length:Int) > 100)))))))] []) [⟨[4],some 9,[[4]],[]⟩,⟨[1],some 10,[],[]⟩,⟨[2],some 11,[],[]⟩,⟨[9,10,11],some 12,[],[]⟩,⟨[12],some 13,[],[]⟩,⟨[13],some 14,[],[]⟩,⟨[14,3],some 15,[],[]⟩,⟨[14,15],some 16,[],[]⟩,⟨[14,16],some 17,[],[]⟩,⟨[14,17],some 18,[],[]⟩] (fun k8=>?_) ?_
 ·skip
  refine .load (.no Y) Y t33 Y Y (.ptr _ _ _ _ _ Y) Y Y Y Y<|.move (.no Y) Y Y Y Y<|.move (.no Y) Y Y Y Y<|.call (.no Y) Y [] [] (c_areBoth d a b (by first | assumption | exact ⟨d,h2⟩) (by first | assumption | exact ⟨d,h2⟩)) Y Y Y Y Y (.dd (.dd (.dd (.dd (.dd .nil))))) Y Y (fun h=>absurd Y h) (.own [12,0] .nil) (.nil) Y Y Y (by simp) Y Y Y<|.un (.no Y) Y Y Y Y Y<|.moveB (.no Y) Y Y Y Y fun b9 g1_5=>?_
  cases b9
  ·skip
   refine .move (.on Y Y Y Y Y) Y Y Y Y<|.len (.on Y Y Y Y Y) Y (z:=(s.length:Int)) t41 Y Y Y (.d _ _) (map_len _ _) Y<|.bin (.on Y Y Y Y Y) Y Y Y Y Y Y<|.pick (.no Y) Y Y Y Y Y ?_
   exact .fin () (.of (.cons Y (.cons Y (.cons Y (.cons (svB (show (decide ((s.length:Int) > 100))=((!(Parts.ok d a&&Parts.isIn d b)||decide ((s.length:Int) > 100))) by first | (simp only [g1_5,Bool.true_or,Bool.false_or,Bool.true_and,Bool.false_and,Bool.not_true,Bool.not_false]; done) | (simp [g1_5]; done) | (exfalso; simp_all; done))) .nil)))) .nil)
  ·skip
   refine .off Y Y Y Y Y Y Y<|.off Y Y Y Y Y Y Y<|.off Y Y Y Y Y Y Y<|.pick (.no Y) Y Y Y Y Y ?_
   exact .fin () (.of (.cons Y (.cons Y (.cons Y (.cons (svB (show (true)=((!(Parts.ok d a&&Parts.isIn d b)||decide ((s.length:Int) > 100))) by first | (simp only [g1_5,Bool.true_or,Bool.false_or,Bool.true_and,Bool.false_and,Bool.not_true,Bool.not_false]; done) | (simp [g1_5]; done) | (exfalso; simp_all; done))) .nil)))) .nil)
 intro _
 refine .cond (t:=(!(Parts.ok d a&&Parts.isIn d b)||decide ((s.length:Int) > 100))) Y (fun c0=>?_) (fun c0=>?_)
 ·have c0:=(oT (nT (aF id id)) dT) c0
  have h3:(Parts.ok d a=false∨Parts.isIn d b=false)∨(s.length:Int) > 100:=(by cases h8:Parts.ok d a<;>cases h9:Parts.isIn d b<;>simp_all)
  refine .seq<|.rs fun k10=>.as Y<|.z<|.ret ?_
  exact fin0 (.inr Y) (.one Y .nil) (.cons (Gives.nil' (by (rw [pwiden_no2 h3]; rfl))) .nil) Y
 ·have c0:=(oF (nF (aT id id)) dF) c0
  have h2:Parts.ok d a=true∧Parts.isIn d b=true:=(by simpa [Bool.and_eq_true] using c0.1)
  refine .skip<|.seq<|.rs fun k11=>.mv Y<|.mv Y<|.mv Y<|.c0 (c_widening s) Y (.dd .nil) (.own [22,0] .nil) Y<|.c0 (c_partsWith a b 107 [] [.pt false [.sl false 2 1 (List.map i64c (s))]] (fun x0 x1=>Iv.widenOk s x0 x1) (fun x0 x1=>c_widening1 x0 x1 s) (by first | assumption | exact ⟨d,h2⟩)) Y (.dd (.dd (.dd .nil))) (.own [23,0] .nil) Y<|.g (fun _ τ=>⟨_,.call (.no Y) Y [] [([23,0],(k11+1+1+1+1,k11+1+1+1+1,.row 62 2 (List.map Part.co62 (uniI (zip2 (Env.joinW (fun x0 x1=>Iv.widenOk s x0 x1))) a b b.length))))] (c_few (uniI (zip2 (Env.joinW (fun x0 x1=>Iv.widenOk s x0 x1))) a b b.length)) Y Y Y Y Y (.cons (.ref (.head _)) .nil) Y Y (fun h=>absurd Y h) (.own [24,0] .nil) (.nil) Y Y Y (AllH.get (.r Y)) Y Y Y τ⟩) ?_
  refine .as Y<|.z<|.ret ?_
  have e12:(fewV (uniI (zip2 (Env.joinW (fun x0 x1=>Iv.widenOk s x0 x1))) a b b.length))=(Parts.widenIn d a b s):=by (rw [pwiden_yes2 ⟨h2,c0.2⟩])
  exact fin1 (.inr Y) [] [([24,0],(k11+1+1+1+1+1,k11+1+1+1+1+1,.row 62 2 (List.map Part.co62 (Parts.widenIn d a b s))))] (.one Y .nil) (.cons (.ref (.head _)) .nil) Y Y (.cons (rowE (congrArg (List.map Part.co62) e12)) .nil)
end Go.Proofs

namespace Go.Proofs
open Go Go.Proofs Go.Ev

def u8c (x:Int):List D:=[.v (.int .u8 x)]
theorem u8c_e (x:Int):(u8c x).map D.erase=u8c x:=by simp [u8c,D.erase_v]
theorem u8c_o (x:Int):∀ d∈u8c x,Owned d:=by simp [u8c,Owned.v]
def i5:TI:=⟨.int .u8,1,1,[.int .u8 0]⟩
theorem t5:TyOk Tryz.prog 5 i5:=⟨Tryz.underlying5,by kernel_rfl⟩
theorem z5:ZOk Tryz.prog 5 i5:=⟨t5,rfl⟩
def i47:TI:=⟨.sl 5,1,24,[.slice none 0 0]⟩
theorem t47:TyOk Tryz.prog 47 i47:=⟨Tryz.underlying47,by kernel_rfl⟩
theorem z47:ZOk Tryz.prog 47 i47:=⟨t47,rfl⟩
def i143:TI:=⟨.st [(0,47),(1,3)],2,32,[.slice none 0 0,.int .i64 0]⟩
theorem t143:TyOk Tryz.prog 143 i143:=⟨⟨_,Tryz.underlying143,rfl⟩,by kernel_rfl⟩
theorem z143:ZOk Tryz.prog 143 i143:=⟨t143,rfl⟩
theorem p143:Places Tryz.prog [(0,47),(1,3)] [(0,1),(1,1)]:=by unfold Places; kernel_rfl
def i185:TI:=⟨.int .u64,1,8,[.int .u64 0]⟩
theorem t185:TyOk Tryz.prog 185 i185:=⟨Tryz.underlying185,by kernel_rfl⟩
theorem z185:ZOk Tryz.prog 185 i185:=⟨t185,rfl⟩
theorem c_next (r:Rdr) (hr:Rdr.ok r.b r.p):Trip Tryz.prog 111 [(false,1)] ([.pt true [.sl false 5 1 (List.map u8c (r.b)),.v (.int .i64 (r.p))]]) [(false,1)] [.v (.int .i64 (nextV r.b r.p))] [(0,.pt true [.sl false 5 1 (List.map u8c (r.b)),.v (.int .i64 (nextP r.b r.p))])]:=by
 refine Trip.of Tryz.func111 (by decide) (c:=_) Y Y (Nat.le_of_ble_eq_true Y) Y (AftOk.pt Y (AftOk.nil _))<|.seq<|.rs fun k1=>.as Y<|.z<|.seq<|.seq ?_
 refine .regD (X:=Unit) (by kernel_rfl) (fun ζ=>.of [(0,.one (.ptr [0,0,0] (0) 0)),(12,.one (.d (.v (.bool (decide (r.p≥(r.b.length:Int)))))))] [([0,0,0],(0,0,.box [.d (.sl false 5 1 (List.map u8c (r.b))),.d (.v (.int .i64 (r.p)))]))]) [⟨[0],some 3,[],[]⟩,⟨[3],some 4,[],[]⟩,⟨[4],some 5,[],[]⟩,⟨[5],some 6,[[0,0,0]],[]⟩,⟨[0],some 7,[],[]⟩,⟨[7],some 8,[],[]⟩,⟨[8],some 9,[],[]⟩,⟨[9],some 10,[[0,0,0]],[]⟩,⟨[10],some 11,[],[]⟩,⟨[6,11],some 12,[],[]⟩] (by kernel_rfl) (fun k2=>?_) ?_
 ·skip
  refine .move (.no Y) Y Y Y Y<|.nilCheck (.no Y) Y Y Y (ptr_some _ _ _) Y<|.fieldAddrP (.no Y) Y t143 Y Y t3 Y Y Y Y<|.load (.no Y) Y t3 Y Y (.ptr _ _ _ _ _ Y) Y Y Y Y<|.move (.no Y) Y Y Y Y<|.nilCheck (.no Y) Y Y Y (ptr_some _ _ _) Y<|.fieldAddrP (.no Y) Y t143 Y Y t47 Y Y Y Y<|.load (.no Y) Y t47 Y Y (.ptr _ _ _ _ _ Y) Y Y Y Y<|.len (.no Y) Y (z:=(r.b.length:Int)) t47 Y Y Y (.d _ _) (map_len _ _) Y ?_
  refine .bin (.no Y) Y Y Y Y Y Y ?_
  exact .fin () (.of (.r Y) (.r Y))
 intro _
 refine .cond (t:=decide (r.p≥(r.b.length:Int))) Y (fun c0=>?_) (fun c0=>?_)
 ·have c0:=of_decide_eq_true c0
  refine .seq<|.rs fun k3=>.as Y<|.z<|.ret ?_
  have e5:(r.p)=(nextP r.b r.p):=by (first | exact (nextV_end c0).symm | exact (nextP_end c0).symm)
  exact fin1 (.inr Y) [] [([0,0,0],(0,0,.box [.d (.sl false 5 1 (List.map u8c (r.b))),.d (.v (.int .i64 (nextP r.b r.p)))]))] (.one (svI (show (0)=(nextV r.b r.p) by (first | exact (nextV_end c0).symm | exact (nextP_end c0).symm))) .nil) (.dd (.cons (.ptr (.head _) (.dd (.dd .nil)) (by simp)) .nil)) Y Y (.cons (eq1 (fun z1=>some (0,0,O.box [.d (.sl false 5 1 (List.map u8c (r.b))),.d (.v (.int .i64 (z1)))])) e5) .nil)
 ·have c0:=of_decide_eq_false c0
  refine .skip<|.seq<|.rs fun k6=>.mv Y<|.g (fun _ τ=>⟨_,.nilCheck (.no Y) Y Y Y (ptr_some _ _ _) Y τ⟩)<|.fp t143 t3 Y<|.ld t3 Y (.ptr _ _ _ _ _ Y) Y<|.g (fun _ τ=>⟨_,.binN (.no Y) Y (show IntKind.wrap .i64 (r.p+1)=r.p+1 by (have h9:=hr.2.1; have h8:=hr.1; have h7:=hr.2.2.1; exact wrap_le (by omega) (by omega))) Y Y Y Y Y τ⟩)<|.g (fun _ τ=>⟨_,.nilCheck (.no Y) Y Y Y (ptr_some _ _ _) Y τ⟩) ?_
  refine .fp t143 t3 Y<|.g (fun _ τ=>⟨_,.store (.no Y) Y t3 Y Y Y Y Y Y Y Y Y τ⟩)<|.z<|.seq ?_
  refine .regD (X:=Unit) (by kernel_rfl) (fun ζ=>.of [(0,.one (.ptr [0,0,0] (0) 0)),(2,.one (.d (.v (.int .i64 (r.b.getD ((r.p).toNat) default)))))] [([0,0,0],(0,k6+1+1+1+1+1+1+1,.box [.d (.sl false 5 1 (List.map u8c (r.b))),.d (.v (.int .i64 (r.p+1)))]))]) [⟨[0],some 20,[],[]⟩,⟨[20],some 21,[],[]⟩,⟨[21],some 22,[],[]⟩,⟨[22],some 23,[[0,0,0]],[]⟩,⟨[0],some 24,[],[]⟩,⟨[24],some 25,[],[]⟩,⟨[25],some 26,[],[]⟩,⟨[26],some 27,[[0,0,0]],[]⟩,⟨[27],some 28,[],[]⟩,⟨[23,28],some 29,[],[]⟩,⟨[29],some 30,[],[]⟩,⟨[30],some 31,[],[]⟩,⟨[31],some 2,[],[]⟩] (by kernel_rfl) (fun k7=>?_) ?_
  ·skip
   refine .move (.no Y) Y Y Y Y<|.nilCheck (.no Y) Y Y Y (ptr_some _ _ _) Y<|.fieldAddrP (.no Y) Y t143 Y Y t47 Y Y Y Y<|.load (.no Y) Y t47 Y Y (.ptr _ _ _ _ _ Y) Y Y Y Y<|.move (.no Y) Y Y Y Y<|.nilCheck (.no Y) Y Y Y (ptr_some _ _ _) Y<|.fieldAddrP (.no Y) Y t143 Y Y t3 Y Y Y Y<|.load (.no Y) Y t3 Y Y (.ptr _ _ _ _ _ Y) Y Y Y Y<|.binN (.no Y) Y (show IntKind.wrap .i64 ((r.p+1) - 1)=r.p by (have h9:=hr.2.1; have h8:=hr.1; have h7:=hr.2.2.1; rw [wrap_le (by omega) (by omega)]; omega)) Y Y Y Y Y ?_
   refine .indexAddr (.no Y) Y ((r.p).toNat) t47 Y t5 Y Y Y (.d _ _) Y Y (by (have h8:=hr.1; omega)) (map_get (by have h8:=hr.1; omega)) Y Y<|.load (.no Y) Y t5 Y Y (.d _) Y Y Y Y<|.conv (.no Y) Y (z':=r.b.getD ((r.p).toNat) default) t5 t3 Y Y Y Y (by have h8:=hr.1; have h9:=hr.2.2.2 _ (getD_mem (a:=r.b) (j:=r.p.toNat) (by omega)); exact wrap_le (by omega) (by omega)) Y<|.assign (.no Y) Y Y Y Y ?_
   exact .fin () (.of (.r Y) (.r Y))
  intro _
  refine .ret ?_
  have e9:(r.p+1)=(nextP r.b r.p):=by (first | exact (nextV_more c0).symm | exact (nextP_more c0).symm)
  exact fin1 (.inr Y) [] [([0,0,0],(0,k6+1+1+1+1+1+1+1,.box [.d (.sl false 5 1 (List.map u8c (r.b))),.d (.v (.int .i64 (nextP r.b r.p)))]))] (.one (svI (show (r.b.getD ((r.p).toNat) default)=(nextV r.b r.p) by (first | exact (nextV_more c0).symm | exact (nextP_more c0).symm))) .nil) (.dd (.cons (.ptr (.head _) (.dd (.dd .nil)) (by simp)) .nil)) Y Y (.cons (eq1 (fun z1=>some (0,k6+1+1+1+1+1+1+1,O.box [.d (.sl false 5 1 (List.map u8c (r.b))),.d (.v (.int .i64 (z1)))])) e9) .nil)
theorem c_below (r:Rdr) (n:Int) (hr:Rdr.ok r.b r.p):Trip Tryz.prog 64 [(false,1),(false,1)] ([.pt true [.sl false 5 1 (List.map u8c (r.b)),.v (.int .i64 (r.p))]]++[.v (.int .i64 (n))]) [(false,1)] [.v (.int .i64 (belowV r.b r.p n))] [(0,.pt true [.sl false 5 1 (List.map u8c (r.b)),.v (.int .i64 (belowP r.b r.p n))])]:=by
 refine Trip.of Tryz.func64 (by decide) (c:=_) Y Y (Nat.le_of_ble_eq_true Y) Y (AftOk.pt Y (AftOk.nil _))<|.seq<|.rs fun k1=>.as Y<|.z<|.seq<|.seq<|.rs fun k2=>.mv Y ?_
 refine .bi Y<|.z ?_
 refine .cond (t:=decide (n≤1)) Y (fun c0=>?_) (fun c0=>?_)
 ·have c0:=of_decide_eq_true c0
  refine .seq<|.rs fun k3=>.as Y<|.z<|.ret ?_
  have e5:(r.p)=(belowP r.b r.p n):=by (first | exact (belowV_one c0).symm | exact (belowP_one c0).symm)
  exact fin1 (.inr Y) [] [([0,0,0],(0,0,.box [.d (.sl false 5 1 (List.map u8c (r.b))),.d (.v (.int .i64 (belowP r.b r.p n)))]))] (.one (svI (show (0)=(belowV r.b r.p n) by (first | exact (belowV_one c0).symm | exact (belowP_one c0).symm))) .nil) (.dd (.cons (.ptr (.head _) (.dd (.dd .nil)) (by simp)) .nil)) Y Y (.cons (eq1 (fun z1=>some (0,0,O.box [.d (.sl false 5 1 (List.map u8c (r.b))),.d (.v (.int .i64 (z1)))])) e5) .nil)
 ·have c0:=of_decide_eq_false c0
  refine .skip<|.seq<|.seq<|.rs fun k6=>.mv Y<|.bi Y<|.z ?_
  refine .cond (t:=decide (n≤256)) Y (fun c1=>?_) (fun c1=>?_)
  ·have c1:=of_decide_eq_true c1
   refine .seq<|.rs fun k7=>.mv Y<|.g (fun _ τ=>⟨_,.call (.no Y) Y [] [([0,0,0],(0,0,.box [.d (.sl false 5 1 (List.map u8c (r.b))),.d (.v (.int .i64 (r.p)))]))] (c_next r hr) Y Y Y Y Y (.cons (.ptr (.head _) (.dd (.dd .nil)) (by simp)) .nil) Y Y (fun h=>absurd Y h) (.own [11,0] .nil) (.ptr Y (.head _) (by simp) .nil) Y Y Y (AllH.get (.r Y)) Y Y Y τ⟩)<|.mv Y<|.g (fun _ τ=>⟨_,.quoRem (.no Y) Y (.inr ⟨rfl,rfl⟩) Y Y Y (ne_beq (by omega)) Y τ⟩)<|.as Y<|.z<|.ret ?_
   have e9:(nextP r.b r.p)=(belowP r.b r.p n):=by (first | exact (belowV_more c0 c1).symm | exact (belowP_more c0 c1).symm)
   exact fin1 (.inr Y) [] [([0,0,0],(0,k7+1,.box [.d (.sl false 5 1 (List.map u8c (r.b))),.d (.v (.int .i64 (belowP r.b r.p n)))]))] (.one (svI (show (Int.tmod (nextV r.b r.p) n)=(belowV r.b r.p n) by (first | exact (belowV_more c0 c1).symm | exact (belowP_more c0 c1).symm))) .nil) (.dd (.cons (.ptr (.head _) (.dd (.dd .nil)) (by simp)) .nil)) Y Y (.cons (eq1 (fun z1=>some (0,k7+1,O.box [.d (.sl false 5 1 (List.map u8c (r.b))),.d (.v (.int .i64 (z1)))])) e9) .nil)
  ·have c1:=of_decide_eq_false c1
   refine .skip<|.seq<|.rs fun k10=>.mv Y<|.g (fun _ τ=>⟨_,.call (.no Y) Y [] [([0,0,0],(0,0,.box [.d (.sl false 5 1 (List.map u8c (r.b))),.d (.v (.int .i64 (r.p)))]))] (c_next r hr) Y Y Y Y Y (.cons (.ptr (.head _) (.dd (.dd .nil)) (by simp)) .nil) Y Y (fun h=>absurd Y h) (.own [15,0] .nil) (.ptr Y (.head _) (by simp) .nil) Y Y Y (AllH.get (.r Y)) Y Y Y τ⟩)<|.bi Y<|.as Y<|.z<|.seq ?_
   refine .rs fun k11=>.mv Y<|.mv Y<|.g (fun _ τ=>⟨_,.call (.no Y) Y [] [([0,0,0],(0,k10+1,.box [.d (.sl false 5 1 (List.map u8c (r.b))),.d (.v (.int .i64 (nextP r.b r.p)))]))] (c_next (Rdr.mk r.b (nextP r.b r.p)) (Rdr.ok.next hr)) Y Y Y Y Y (.cons (.ptr (.head _) (.dd (.dd .nil)) (by simp)) .nil) Y Y (fun h=>absurd Y h) (.own [19,0] .nil) (.ptr Y (.head _) (by simp) .nil) Y Y Y (AllH.get (.r Y)) Y Y Y τ⟩)<|.bi Y<|.as Y<|.z<|.seq<|.rs fun k12=>?_
   refine .mv Y<|.mv Y<|.g (fun _ τ=>⟨_,.quoRem (.no Y) Y (.inr ⟨rfl,rfl⟩) Y Y Y (ne_beq (by omega)) Y τ⟩)<|.as Y<|.z<|.ret ?_
   have e14:(nextP r.b (nextP r.b r.p))=(belowP r.b r.p n):=by (first | exact (belowV_two' hr c0 c1).symm | exact (belowP_two c0 c1).symm)
   exact fin1 (.inr Y) [] [([0,0,0],(0,k11+1+1,.box [.d (.sl false 5 1 (List.map u8c (r.b))),.d (.v (.int .i64 (belowP r.b r.p n)))]))] (.one (svI (show (Int.tmod (IntKind.wrap .i64 ((IntKind.wrap .i64 ((nextV r.b r.p) * 256))+(nextV r.b (nextP r.b r.p)))) n)=(belowV r.b r.p n) by (first | exact (belowV_two' hr c0 c1).symm | exact (belowP_two c0 c1).symm))) .nil) (.dd (.cons (.ptr (.head _) (.dd (.dd .nil)) (by simp)) .nil)) Y Y (.cons (eq1 (fun z1=>some (0,k11+1+1,O.box [.d (.sl false 5 1 (List.map u8c (r.b))),.d (.v (.int .i64 (z1)))])) e14) .nil)
theorem c_once (r:Rdr) (n:Int) (hr:Rdr.ok r.b r.p) (hn:0≤n∧n≤1048576):Trip Tryz.prog 66 [(false,1),(false,1)] ([.pt true [.sl false 5 1 (List.map u8c (r.b)),.v (.int .i64 (r.p))]]++[.v (.int .i64 (n))]) [(false,1)] [.v (.bool (onceV r.b r.p n))] [(0,.pt true [.sl false 5 1 (List.map u8c (r.b)),.v (.int .i64 (belowP r.b r.p n))])]:=by
 refine Trip.of Tryz.func66 (by decide) (c:=_) Y Y (Nat.le_of_ble_eq_true Y) Y (AftOk.pt Y (AftOk.nil _))<|.seq<|.rs fun k1=>.as Y<|.z<|.seq<|.rs fun k2=>.mv Y<|.mv Y ?_
 refine .g (fun _ τ=>⟨_,.call (.no Y) Y [] [([0,0,0],(0,0,.box [.d (.sl false 5 1 (List.map u8c (r.b))),.d (.v (.int .i64 (r.p)))]))] (c_below r n hr) Y Y Y Y Y (.cons (.ptr (.head _) (.dd (.dd .nil)) (by simp)) (.dd .nil)) Y Y (fun h=>absurd Y h) (.own [7,0] .nil) (.ptr Y (.head _) (by simp) .nil) Y Y Y (AllH.get (.r Y)) Y Y Y τ⟩)<|.mv Y<|.bi Y<|.bi Y<|.as Y<|.z<|.ret ?_
 exact fin1 (.inr Y) [] [([0,0,0],(0,k2+1+1,.box [.d (.sl false 5 1 (List.map u8c (r.b))),.d (.v (.int .i64 (belowP r.b r.p n)))]))] (.one (svB (show ((belowV r.b r.p n) == (IntKind.wrap .i64 (n - 1)))=(onceV r.b r.p n) by (rw [onceV_eq hn]))) .nil) (.dd (.cons (.ptr (.head _) (.dd (.dd .nil)) (by simp)) .nil)) Y Y (.r Y)
theorem c_word (r:Rdr) (hr:Rdr.ok r.b r.p):Trip Tryz.prog 155 [(false,1)] ([.pt true [.sl false 5 1 (List.map u8c (r.b)),.v (.int .i64 (r.p))]]) [(false,1)] [.v (.int .u64 (wordV r.b r.p))] [(0,.pt true [.sl false 5 1 (List.map u8c (r.b)),.v (.int .i64 (wordP r.b r.p))])]:=by
 refine Trip.of Tryz.func155 (by decide) (c:=_) Y Y (Nat.le_of_ble_eq_true Y) Y (AftOk.pt Y (AftOk.nil _))<|.seq<|.rs fun k1=>.as Y<|.z<|.seq<|.rs fun k2=>.as Y<|.z ?_
 refine .seq<|.seq<|.rs fun k3=>.as Y<|.z<|.block ?_
 refine .loop (X:=Nat × Nat) (fun ζ=>.of [(0,.one (.ptr [0,0,0] (0) 0)),(3,.one (.d (.v (.int .u64 (wordTo r.b r.p ζ.1))))),(4,.one (.d (.v (.int .i64 ((ζ.1:Int))))))] [([0,0,0],(0,ζ.2,.box [.d (.sl false 5 1 (List.map u8c (r.b))),.d (.v (.int .i64 (nextsP r.b r.p ζ.1)))]))]) (fun ζ=>ζ.1≤8) (fun ζ=>8 - ζ.1) ?_ ?_
 ·skip
  exact .here (0,0) (.of (.cons Y (.cons (svI (show (0)=(wordTo r.b r.p 0) by first | with_reducible exact wordTo_succ _ | rfl | omega | exact wrap_le (by omega) (by omega))) (.cons (svI (show (0)=((0:Int)) by first | with_reducible exact wordTo_succ _ | rfl | omega | exact wrap_le (by omega) (by omega))) .nil))) (.cons (eq1 (fun z1=>some (0,0,O.box [.d (.sl false 5 1 (List.map u8c (r.b))),.d (.v (.int .i64 (z1)))])) (show (r.p)=(nextsP r.b r.p 0) by first | with_reducible exact wordTo_succ _ | rfl | omega | exact wrap_le (by omega) (by omega))) .nil)) (show 0≤8 by omega)
 ·rintro ⟨j,q4⟩ hI
  have hI:j≤8:=hI
  dsimp only
  refine .seq<|.seq<|.rs fun k5=>.mv Y<|.bi Y<|.z ?_
  refine .cond (t:=decide ((j:Int) < 8)) Y (fun c0=>?_) (fun c0=>?_)
  ·have c0:=of_decide_eq_true c0
   refine .skip<|.seq<|.block<|.rs fun k6=>.mv Y<|.g (fun _ τ=>⟨_,.shl (.no Y) Y Y Y Y (by omega) Y Y τ⟩)<|.mv Y<|.g (fun _ τ=>⟨_,.call (.no Y) Y [] [([0,0,0],(0,q4,.box [.d (.sl false 5 1 (List.map u8c (r.b))),.d (.v (.int .i64 (nextsP r.b r.p j)))]))] (c_next (Rdr.mk r.b (nextsP r.b r.p j)) (Rdr.ok.nexts hr j)) Y Y Y Y Y (.cons (.ptr (.head _) (.dd (.dd .nil)) (by simp)) .nil) Y Y (fun h=>absurd Y h) (.own [12,0] .nil) (.ptr Y (.head _) (by simp) .nil) Y Y Y (AllH.get (.r Y)) Y Y Y τ⟩)<|.g (fun _ τ=>⟨_,.conv (.no Y) Y t3 t185 Y Y Y Y Y Y τ⟩) ?_
   refine .bi Y<|.as Y<|.z<|.rs fun k7=>.mv Y<|.bi Y<|.as Y<|.z ?_
   exact .here ((j+1),(k6+1+1+1)) (.of (.cons Y (.cons (svI (show (IntKind.wrap .u64 ((BitVec.ofInt (IntKind.bits .u64) (IntKind.wrap .u64 ((wordTo r.b r.p j) * 2 ^ (min ((8:Int)).toNat (IntKind.bits .u64)))) ||| BitVec.ofInt (IntKind.bits .u64) (IntKind.wrap .u64 (nextV r.b (nextsP r.b r.p j)))).toNat:Int))=(wordTo r.b r.p (j+1)) by first | with_reducible exact wordTo_succ _ | rfl | omega | exact wrap_le (by omega) (by omega))) (.cons (svI (show (IntKind.wrap .i64 ((j:Int)+1))=(((j+1):Int)) by first | with_reducible exact wordTo_succ _ | rfl | omega | exact wrap_le (by omega) (by omega))) .nil))) (.cons (eq1 (fun z1=>some (0,k6+1+1+1,O.box [.d (.sl false 5 1 (List.map u8c (r.b))),.d (.v (.int .i64 (z1)))])) (show (nextP r.b (nextsP r.b r.p j))=(nextsP r.b r.p (j+1)) by first | with_reducible exact wordTo_succ _ | rfl | omega | exact wrap_le (by omega) (by omega))) .nil)) ⟨(show (j+1)≤8 by omega),(show 8 - (j+1) < 8 - j by omega)⟩
  ·have c0:=of_decide_eq_false c0
   refine .exit<|.seq<|.rs fun k8=>.mv Y<|.as Y<|.z<|.ret ?_
   have e10:(nextsP r.b r.p j)=(wordP r.b r.p):=by (first | exact (word_end hI c0).1 | exact (word_end hI c0).2)
   exact fin1 (.inr Y) [] [([0,0,0],(0,q4,.box [.d (.sl false 5 1 (List.map u8c (r.b))),.d (.v (.int .i64 (wordP r.b r.p)))]))] (.one (svI (show (wordTo r.b r.p j)=(wordV r.b r.p) by (first | exact (word_end hI c0).1 | exact (word_end hI c0).2))) .nil) (.dd (.cons (.ptr (.head _) (.dd (.dd .nil)) (by simp)) .nil)) Y Y (.cons (eq1 (fun z1=>some (0,q4,O.box [.d (.sl false 5 1 (List.map u8c (r.b))),.d (.v (.int .i64 (z1)))])) e10) .nil)
theorem c_num (r:Rdr) (hr:Rdr.ok r.b r.p):Trip Tryz.prog 137 [(false,1)] ([.pt true [.sl false 5 1 (List.map u8c (r.b)),.v (.int .i64 (r.p))]]) [(false,1)] [.v (.int .i64 (numV r.b r.p))] [(0,.pt true [.sl false 5 1 (List.map u8c (r.b)),.v (.int .i64 (numP r.b r.p))])]:=by
 refine Trip.of Tryz.func137 (by decide) (c:=_) Y Y (Nat.le_of_ble_eq_true Y) Y (AftOk.pt Y (AftOk.nil _))<|.seq<|.rs fun k1=>.as Y<|.z<|.seq<|.seq<|.rs fun k2=>.mv Y ?_
 refine .g (fun _ τ=>⟨_,.call (.no Y) Y [] [([0,0,0],(0,0,.box [.d (.sl false 5 1 (List.map u8c (r.b))),.d (.v (.int .i64 (r.p)))]))] (c_below r 6 hr) Y Y Y Y Y (.cons (.ptr (.head _) (.dd (.dd .nil)) (by simp)) (.dd .nil)) Y Y (fun h=>absurd Y h) (.own [4,0] .nil) (.ptr Y (.head _) (by simp) .nil) Y Y Y (AllH.get (.r Y)) Y Y Y τ⟩)<|.z<|.block<|.seq<|.rs fun k3=>.bi Y<|.as Y<|.z ?_
 refine .cond (t:=(belowV r.b r.p 6) == 0) Y (fun c0=>?_) (fun c0=>?_)
 ·have c0:=(by simpa using c0:(belowV r.b r.p 6)=0)
  refine .seq<|.rs fun k4=>.g (fun _ τ=>⟨_,.buildSlice (.no Y) Y (els:=[[.v (.int .i64 (-9223372036854775808))],[.v (.int .i64 (-9223372036854775807))],[.v (.int .i64 (9223372036854775807))],[.v (.int .i64 (9223372036854775806))],[.v (.int .i64 (-1))],[.v (.int .i64 (0))],[.v (.int .i64 (1))],[.v (.int .i64 (4294967296))],[.v (.int .i64 (-4294967296))],[.v (.int .i64 (3037000500))]]) t41 Y z2 Y Y Y Y Y Y Y Y (by simp [i2]) (.cons _ _ _ _ _ _ (.d _) (.cons _ _ _ _ _ _ (.d _) (.cons _ _ _ _ _ _ (.d _) (.cons _ _ _ _ _ _ (.d _) (.cons _ _ _ _ _ _ (.d _) (.cons _ _ _ _ _ _ (.d _) (.cons _ _ _ _ _ _ (.d _) (.cons _ _ _ _ _ _ (.d _) (.cons _ _ _ _ _ _ (.d _) (.cons _ _ _ _ _ _ (.d _) .nil)))))))))) Y Y Y τ⟩)<|.mv Y ?_
  refine .g (fun _ τ=>⟨_,.call (.no Y) Y [] [([0,0,0],(0,k2+1,.box [.d (.sl false 5 1 (List.map u8c (r.b))),.d (.v (.int .i64 (belowP r.b r.p 6)))]))] (c_below (Rdr.mk r.b (belowP r.b r.p 6)) 10 (Rdr.ok.below (n:=6) hr)) Y Y Y Y Y (.cons (.ptr (.head _) (.dd (.dd .nil)) (by simp)) (.dd .nil)) Y Y (fun h=>absurd Y h) (.own [9,0] .nil) (.ptr Y (.head _) (by simp) .nil) Y Y Y (AllH.get (.r Y)) Y Y Y τ⟩)<|.g (fun _ τ=>⟨_,.indexAddr (.no Y) Y ((belowV r.b (belowP r.b r.p 6) 10).toNat) t41 Y t2 Y Y Y (.ref _ _ _ _ _ Y) Y Y (by (dsimp only; have h9:=belowV_bnd (n:=10) (hr.below (n:=6)) (by omega); omega)) (map_get (c:=i64c) (L:=numL) (by have h9:=belowV_bnd (n:=10) (hr.below (n:=6)) (by omega); show _ < 10; omega)) Y Y τ⟩) ?_
  refine .ld t2 Y (.eptr _ _ _ _ _ _ _ _ _ Y (map_get (c:=i64c) (L:=numL) (by have h9:=belowV_bnd (n:=10) (hr.below (n:=6)) (by omega); show _ < 10; omega))) Y<|.as Y<|.z<|.ret ?_
  have e6:(belowP r.b (belowP r.b r.p 6) 10)=(numP r.b r.p):=by (first | exact (num_0 c0).1.symm | exact (num_0 c0).2.symm)
  exact fin1 (.inr Y) [] [([0,0,0],(0,k4+1+1,.box [.d (.sl false 5 1 (List.map u8c (r.b))),.d (.v (.int .i64 (numP r.b r.p)))]))] (.one (svI (show (([-9223372036854775808,-9223372036854775807,9223372036854775807,9223372036854775806,-1,0,1,4294967296,-4294967296,3037000500]).getD ((belowV r.b (belowP r.b r.p 6) 10).toNat) default)=(numV r.b r.p) by (first | exact (num_0 c0).1.symm | exact (num_0 c0).2.symm))) .nil) (.dd (.cons (.ptr (.head _) (.dd (.dd .nil)) (by simp)) .nil)) Y Y (.cons (eq1 (fun z1=>some (0,k4+1+1,O.box [.d (.sl false 5 1 (List.map u8c (r.b))),.d (.v (.int .i64 (z1)))])) e6) .nil)
 ·have c0:=(by simpa using c0:¬ ((belowV r.b r.p 6)=0))
  refine .seq<|.rs fun k7=>.bi Y<|.as Y<|.z ?_
  refine .cond (t:=(belowV r.b r.p 6) == 1) Y (fun c1=>?_) (fun c1=>?_)
  ·have c1:=(by simpa using c1:(belowV r.b r.p 6)=1)
   refine .seq<|.rs fun k8=>.mv Y<|.g (fun _ τ=>⟨_,.call (.no Y) Y [] [([0,0,0],(0,k2+1,.box [.d (.sl false 5 1 (List.map u8c (r.b))),.d (.v (.int .i64 (belowP r.b r.p 6)))]))] (c_word (Rdr.mk r.b (belowP r.b r.p 6)) (Rdr.ok.below (n:=6) hr)) Y Y Y Y Y (.cons (.ptr (.head _) (.dd (.dd .nil)) (by simp)) .nil) Y Y (fun h=>absurd Y h) (.own [15,0] .nil) (.ptr Y (.head _) (by simp) .nil) Y Y Y (AllH.get (.r Y)) Y Y Y τ⟩)<|.g (fun _ τ=>⟨_,.conv (.no Y) Y t185 t2 Y Y Y Y Y Y τ⟩)<|.as Y<|.z<|.ret ?_
   have e10:(wordP r.b (belowP r.b r.p 6))=(numP r.b r.p):=by (first | exact (num_1 c0 c1).1.symm | exact (num_1 c0 c1).2.symm)
   exact fin1 (.inr Y) [] [([0,0,0],(0,k8+1,.box [.d (.sl false 5 1 (List.map u8c (r.b))),.d (.v (.int .i64 (numP r.b r.p)))]))] (.one (svI (show (IntKind.wrap .i64 (wordV r.b (belowP r.b r.p 6)))=(numV r.b r.p) by (first | exact (num_1 c0 c1).1.symm | exact (num_1 c0 c1).2.symm))) .nil) (.dd (.cons (.ptr (.head _) (.dd (.dd .nil)) (by simp)) .nil)) Y Y (.cons (eq1 (fun z1=>some (0,k8+1,O.box [.d (.sl false 5 1 (List.map u8c (r.b))),.d (.v (.int .i64 (z1)))])) e10) .nil)
  ·have c1:=(by simpa using c1:¬ ((belowV r.b r.p 6)=1))
   refine .seq<|.rs fun k11=>.bi Y<|.as Y<|.z ?_
   refine .cond (t:=(belowV r.b r.p 6) == 2) Y (fun c2=>?_) (fun c2=>?_)
   ·have c2:=(by simpa using c2:(belowV r.b r.p 6)=2)
    refine .seq<|.rs fun k12=>.mv Y<|.g (fun _ τ=>⟨_,.call (.no Y) Y [] [([0,0,0],(0,k2+1,.box [.d (.sl false 5 1 (List.map u8c (r.b))),.d (.v (.int .i64 (belowP r.b r.p 6)))]))] (c_word (Rdr.mk r.b (belowP r.b r.p 6)) (Rdr.ok.below (n:=6) hr)) Y Y Y Y Y (.cons (.ptr (.head _) (.dd (.dd .nil)) (by simp)) .nil) Y Y (fun h=>absurd Y h) (.own [20,0] .nil) (.ptr Y (.head _) (by simp) .nil) Y Y Y (AllH.get (.r Y)) Y Y Y τ⟩)<|.g (fun _ τ=>⟨_,.conv (.no Y) Y t185 t2 Y Y Y Y Y Y τ⟩)<|.mv Y ?_
    refine .g (fun _ τ=>⟨_,.call (.no Y) Y [] [([0,0,0],(0,k12+1,.box [.d (.sl false 5 1 (List.map u8c (r.b))),.d (.v (.int .i64 (wordP r.b (belowP r.b r.p 6))))]))] (c_below (Rdr.mk r.b (wordP r.b (belowP r.b r.p 6))) 60 (Rdr.ok.word (Rdr.ok.below (n:=6) hr))) Y Y Y Y Y (.cons (.ptr (.head _) (.dd (.dd .nil)) (by simp)) (.dd .nil)) Y Y (fun h=>absurd Y h) (.own [23,0] .nil) (.ptr Y (.head _) (by simp) .nil) Y Y Y (AllH.get (.r Y)) Y Y Y τ⟩)<|.g (fun _ τ=>⟨_,.conv (.no Y) Y t3 t100 Y Y Y Y Y Y τ⟩)<|.g (fun _ τ=>⟨_,.shr (.no Y) Y Y Y Y (by exact wrap_u64_nn _) Y Y τ⟩)<|.as Y<|.z<|.ret ?_
    have e14:(belowP r.b (wordP r.b (belowP r.b r.p 6)) 60)=(numP r.b r.p):=by (first | exact (num_2 c0 c1 c2).1.symm | exact (num_2 c0 c1 c2).2.symm)
    exact fin1 (.inr Y) [] [([0,0,0],(0,k12+1+1+1+1,.box [.d (.sl false 5 1 (List.map u8c (r.b))),.d (.v (.int .i64 (numP r.b r.p)))]))] (.one (svI (show ((IntKind.wrap .i64 (wordV r.b (belowP r.b r.p 6))).fdiv (2 ^ (min ((IntKind.wrap .u64 (belowV r.b (wordP r.b (belowP r.b r.p 6)) 60))).toNat (IntKind.bits .i64))))=(numV r.b r.p) by (first | exact (num_2 c0 c1 c2).1.symm | exact (num_2 c0 c1 c2).2.symm))) .nil) (.dd (.cons (.ptr (.head _) (.dd (.dd .nil)) (by simp)) .nil)) Y Y (.cons (eq1 (fun z1=>some (0,k12+1+1+1+1,O.box [.d (.sl false 5 1 (List.map u8c (r.b))),.d (.v (.int .i64 (z1)))])) e14) .nil)
   ·have c2:=(by simpa using c2:¬ ((belowV r.b r.p 6)=2))
    refine .skip<|.seq<|.rs fun k15=>.mv Y<|.g (fun _ τ=>⟨_,.call (.no Y) Y [] [([0,0,0],(0,k2+1,.box [.d (.sl false 5 1 (List.map u8c (r.b))),.d (.v (.int .i64 (belowP r.b r.p 6)))]))] (c_below (Rdr.mk r.b (belowP r.b r.p 6)) 41 (Rdr.ok.below (n:=6) hr)) Y Y Y Y Y (.cons (.ptr (.head _) (.dd (.dd .nil)) (by simp)) (.dd .nil)) Y Y (fun h=>absurd Y h) (.own [27,0] .nil) (.ptr Y (.head _) (by simp) .nil) Y Y Y (AllH.get (.r Y)) Y Y Y τ⟩)<|.bi Y<|.as Y<|.z<|.ret ?_
    have e17:(belowP r.b (belowP r.b r.p 6) 41)=(numP r.b r.p):=by (first | exact (num_3 c0 c1 c2).1.symm | exact (num_3 c0 c1 c2).2.symm)
    exact fin1 (.inr Y) [] [([0,0,0],(0,k15+1,.box [.d (.sl false 5 1 (List.map u8c (r.b))),.d (.v (.int .i64 (numP r.b r.p)))]))] (.one (svI (show (IntKind.wrap .i64 ((belowV r.b (belowP r.b r.p 6) 41) - 20))=(numV r.b r.p) by (first | exact (num_3 c0 c1 c2).1.symm | exact (num_3 c0 c1 c2).2.symm))) .nil) (.dd (.cons (.ptr (.head _) (.dd (.dd .nil)) (by simp)) .nil)) Y Y (.cons (eq1 (fun z1=>some (0,k15+1,O.box [.d (.sl false 5 1 (List.map u8c (r.b))),.d (.v (.int .i64 (z1)))])) e17) .nil)
end Go.Proofs

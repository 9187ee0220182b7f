/- Contracts of the program's functions at this seat, printed by a program of ours and checked by Lean: each under the conditions of its own statement. -/
import Derived.Test.YtieoiccmlhjioaaGreatDoorF1
set_option linter.all false
set_option linter.unnecessarySimpa false
set_option linter.unusedSectionVars false
set_option linter.unusedSimpArgs false
set_option linter.unusedVariables false
namespace Go.Proofs
open Go Go.Proofs Go.Ev

theorem c_l6Widen (a:Env) (b:Env) (l:List Int) (hj:a.live=true→b.live=true→a.ints.length=b.ints.length∧a.arrs.length=b.arrs.length) (hb:a.ints.length≤1048576∧a.arrs.length≤1048576∧b.ints.length≤1048576∧b.arrs.length≤1048576):Trip Tryz.prog 186 [(true,3),(true,3),(false,1)] (Env.c98 a++Env.c98 b++[.sl false 2 1 (List.map i64c (l))]) [(true,3)] [.v (.bool ((Env.joinW (fun x y=>Iv.widenOk l x y) a b).live)),.sl true 119 2 (List.map Iv.c ((Env.joinW (fun x y=>Iv.widenOk l x y) a b).ints)),.sl true 119 2 (List.map Iv.c ((Env.joinW (fun x y=>Iv.widenOk l x y) a b).arrs))] []:=by
 refine Trip.of Tryz.func186 (by decide) (c:=_) Y Y (Nat.le_of_ble_eq_true Y) Y (AftOk.nil _)<|.sla (t:=0) 1 Y Y fun hs1l=>.sla (t:=0) 2 Y Y fun hs2l=>.sla (t:=1) 1 Y Y fun hs3l=>.sla (t:=1) 2 Y Y fun hs4l=>.sl (t:=2) Y fun hs5l=>.seq<|.rs fun k6=>.g (fun _ τ=>⟨_,.box (.no Y) Y Y Y Y Y τ⟩) ?_
 refine .g (fun _ τ=>⟨_,.box (.no Y) Y Y Y Y Y τ⟩)<|.g (fun _ τ=>⟨_,.alloc (.no Y) Y z98 Y Y Y τ⟩)<|.z<|.seq<|.seq ?_
 refine .reg (X:=Unit) (fun ζ=>.of [(2,.one (.d (.sl false 2 1 (List.map i64c (l))))),(3,.one (.ptr [3] (k6) 0)),(4,.one (.ptr [4] (k6+1) 0)),(6,.one (.ptr [6] (k6+1+1) 0)),(18,.one (.d (.v (.bool ((!a.live||!b.live))))))] [([3],(k6,k6,.box [.d (.v (.bool (a.live))),.d (.sl false 119 2 (List.map Iv.c (a.ints))),.d (.sl false 119 2 (List.map Iv.c (a.arrs)))])),([4],(k6+1,k6+1,.box [.d (.v (.bool (b.live))),.d (.sl false 119 2 (List.map Iv.c (b.ints))),.d (.sl false 119 2 (List.map Iv.c (b.arrs)))])),([6],(k6+1+1,k6+1+1,.box [.d (.v (.bool (false))),.d (.v (.slice none 0 0)),.d (.v (.slice none 0 0))]))]) [⟨[3],some 11,[],[]⟩,⟨[11],some 12,[[3]],[]⟩,⟨[12],some 13,[],[]⟩,⟨[13],some 14,[],[]⟩,⟨[14,4],some 15,[],[]⟩,⟨[14,15],some 16,[[4]],[]⟩,⟨[14,16],some 17,[],[]⟩,⟨[14,17],some 18,[],[]⟩] (fun k7=>?_) ?_
 ·skip
  refine .fieldAddrP (.no Y) Y t98 Y Y t4 Y Y Y Y<|.load (.no Y) Y t4 Y Y (.ptr _ _ _ _ _ Y) Y Y Y Y<|.un (.no Y) Y Y Y Y Y<|.moveB (.no Y) Y Y Y Y fun b8 g1_3=>?_
  cases b8
  ·skip
   refine .fieldAddrP (.on Y Y Y Y Y) Y t98 Y Y t4 Y Y Y Y<|.load (.on Y Y Y Y Y) Y t4 Y Y (.ptr _ _ _ _ _ Y) Y Y Y Y<|.un (.on Y Y Y Y Y) Y Y Y Y Y<|.pick (.no Y) Y Y Y Y Y ?_
   exact .fin () (.of (.cons Y (.cons Y (.cons Y (.cons Y (.cons (svB (show (!b.live)=((!a.live||!b.live)) by first | (simp only [g1_3,Bool.true_or,Bool.false_or,Bool.true_and,Bool.false_and,Bool.not_true,Bool.not_false]; done) | (simp [g1_3]; done) | (exfalso; simp_all; done))) .nil))))) (.r Y))
  ·skip
   refine .off Y Y Y Y Y Y Y<|.off Y Y Y Y Y Y Y<|.off Y Y Y Y Y Y Y<|.pick (.no Y) Y Y Y Y Y ?_
   exact .fin () (.of (.cons Y (.cons Y (.cons Y (.cons Y (.cons (svB (show (true)=((!a.live||!b.live)) by first | (simp only [g1_3,Bool.true_or,Bool.false_or,Bool.true_and,Bool.false_and,Bool.not_true,Bool.not_false]; done) | (simp [g1_3]; done) | (exfalso; simp_all; done))) .nil))))) (.r Y))
 intro _
 refine .cond (t:=(!a.live||!b.live)) Y (fun c0=>?_) (fun c0=>?_)
 ·have c0:=(oT (nT id) (nT id)) c0
  refine .seq<|.rs fun k9=>.lda t98 Y (.ptr _ _ _ _ _ Y) Y<|.lda t98 Y (.ptr _ _ _ _ _ Y) Y<|.c0 (c_l6Join a b (by first | assumption | omega | (rw [zip2To_len]; simp at hI c1 ⊢; omega)) (by first | assumption | omega | (rw [zip2To_len]; simp at hI c1 ⊢; omega))) Y (.dd (.dd (.dd (.dd (.dd (.dd .nil)))))) (.own [21,0] (.own [21,1] (.own [21,2] .nil))) Y<|.g (fun _ τ=>⟨_,.store (.no Y) Y t98 Y Y Y Y Y Y Y Y Y τ⟩)<|.z<|.ret ?_
  have e10:((Env.join a b).live)=((Env.joinW (fun x y=>Iv.widenOk l x y) a b).live):=by (rw [Env.joinW_dead c0])
  have e11:((Env.join a b).ints)=((Env.joinW (fun x y=>Iv.widenOk l x y) a b).ints):=by (rw [Env.joinW_dead c0])
  have e12:((Env.join a b).arrs)=((Env.joinW (fun x y=>Iv.widenOk l x y) a b).arrs):=by (rw [Env.joinW_dead c0])
  have hc13:=eq1 (fun z1=>some (k6+1+1,k9+1+1+1,O.box [.d (.v (.bool (z1))),.ref [21,1] (k9+1+1),.ref [21,2] (k9+1+1)])) e10
  exact fin1 (.inr Y) [] [([21,1],(k9+1+1,k9+1+1,.row 119 2 (List.map Iv.c ((Env.joinW (fun x y=>Iv.widenOk l x y) a b).ints)))),([21,2],(k9+1+1,k9+1+1,.row 119 2 (List.map Iv.c ((Env.joinW (fun x y=>Iv.widenOk l x y) a b).arrs))))] (.cell (cells:=[.d (.v (.bool ((Env.joinW (fun x y=>Iv.widenOk l x y) a b).live))),.ref [21,1] (k9+1+1),.ref [21,2] (k9+1+1)]) Y hc13 t98 Y Y .nil) (.dd (.cons (.ref (.head _)) (.cons (.ref (.tail _ (.head _))) .nil))) Y Y (.cons (rowE (congrArg (List.map Iv.c) e11)) (.cons (rowE (congrArg (List.map Iv.c) e12)) .nil))
 ·have c0:=(oF (nF id) (nF id)) c0
  refine .skip<|.seq<|.rs fun k14=>.lda t98 Y (.ptr _ _ _ _ _ Y) Y<|.c0 (c_l6List a (by first | assumption | omega | (rw [zip2To_len]; simp at hI c1 ⊢; omega))) Y (.dd (.dd (.dd .nil))) (.frz [23,0] (Frz.of_erase (erase_slo _ _ _ _ _ _ Iv.c_e)) .nil) Y<|.as Y<|.z<|.seq<|.rs fun k15=>?_
  refine .lda t98 Y (.ptr _ _ _ _ _ Y) Y<|.c0 (c_l6List b (by first | assumption | omega | (rw [zip2To_len]; simp at hI c1 ⊢; omega))) Y (.dd (.dd (.dd .nil))) (.frz [25,0] (Frz.of_erase (erase_slo _ _ _ _ _ _ Iv.c_e)) .nil) Y<|.as Y<|.z<|.seq<|.rs fun k16=>.g (fun _ τ=>⟨_,.buildSlice (.no Y) Y (els:=[]) t96 Y z119 Y Y Y Y Y Y Y Y (by simp [i119]) .nil Y Y Y τ⟩)<|.as Y<|.z ?_
  refine .seq<|.seq<|.rs fun k17=>.as Y<|.z<|.block ?_
  refine .loop (X:=Nat × Nat × Nat) (fun ζ=>.of [(2,.one (.d (.sl false 2 1 (List.map i64c (l))))),(3,.one (.ptr [3] (k6) 0)),(6,.one (.ptr [6] (k6+1+1) 0)),(7,.one (.d (.sl false 119 2 (List.map Iv.c (a.ints++a.arrs))))),(8,.one (.d (.sl false 119 2 (List.map Iv.c (b.ints++b.arrs))))),(9,.one (.ref [26] (ζ.2.1))),(10,.one (.d (.v (.int .i64 ((ζ.1:Int))))))] [([3],(k6,k6,.box [.d (.v (.bool (a.live))),.d (.sl false 119 2 (List.map Iv.c (a.ints))),.d (.sl false 119 2 (List.map Iv.c (a.arrs)))])),([6],(k6+1+1,k6+1+1,.box [.d (.v (.bool (false))),.d (.v (.slice none 0 0)),.d (.v (.slice none 0 0))])),([26],(ζ.2.1,ζ.2.2,.row 119 2 (List.map Iv.c (zip2To (fun x y=>Iv.widenOk l x y) (a.ints++a.arrs) (b.ints++b.arrs) ζ.1))))]) (fun ζ=>ζ.1≤(a.ints++a.arrs).length) (fun ζ=>(a.ints++a.arrs).length - ζ.1) ?_ ?_
  ·skip
   exact .here (0,k16,k16) (.of (.cons Y (.cons Y (.cons Y (.cons Y (.cons Y (.cons Y (.cons (svI (show (0)=((0:Int)) by first | rfl | omega | exact wrap_le (by omega) (by omega) | (rw [wrap_le (by omega) (by omega)]; omega))) .nil))))))) (.cons Y (.cons Y (.cons (rowE (show []=List.map Iv.c (zip2To (fun x y=>Iv.widenOk l x y) (a.ints++a.arrs) (b.ints++b.arrs) 0) by first | rfl | exact congrArg _ (zip2To_step (fun x y=>Iv.widenOk l x y) _ _ _))) .nil)))) (show 0≤(a.ints++a.arrs).length by omega)
  ·rintro ⟨j,q18,q19⟩ hI
   have hI:j≤(a.ints++a.arrs).length:=hI
   have hn9:(a.ints++a.arrs).length≤3145728:=by simp; omega
   have hn8:(a.ints++a.arrs).length=(b.ints++b.arrs).length:=by have:=hj c0.1 c0.2; simp; omega
   have hn7:=zip2To_len (fun x y=>Iv.widenOk l x y) (a.ints++a.arrs) (b.ints++b.arrs) j
   dsimp only
   refine .seq<|.seq<|.rs fun k20=>.mv Y<|.mv Y<|.g (fun _ τ=>⟨_,.len (.no Y) Y (z:=((a.ints++a.arrs).length:Int)) t96 Y Y Y (.d _ _) (map_len _ _) Y τ⟩)<|.bi Y<|.z ?_
   refine .cond (t:=decide ((j:Int) < ((a.ints++a.arrs).length:Int))) Y (fun c1=>?_) (fun c1=>?_)
   ·have c1:=of_decide_eq_true c1
    refine .skip<|.seq<|.block ?_
    refine .regD (X:=Nat) (by kernel_rfl) (fun ζ=>.of [(2,.one (.d (.sl false 2 1 (List.map i64c (l))))),(3,.one (.ptr [3] (k6) 0)),(6,.one (.ptr [6] (k6+1+1) 0)),(7,.one (.d (.sl false 119 2 (List.map Iv.c (a.ints++a.arrs))))),(8,.one (.d (.sl false 119 2 (List.map Iv.c (b.ints++b.arrs))))),(9,.one (.ref [26] (ζ))),(10,.one (.d (.v (.int .i64 ((j:Int))))))] [([3],(k6,k6,.box [.d (.v (.bool (a.live))),.d (.sl false 119 2 (List.map Iv.c (a.ints))),.d (.sl false 119 2 (List.map Iv.c (a.arrs)))])),([6],(k6+1+1,k6+1+1,.box [.d (.v (.bool (false))),.d (.v (.slice none 0 0)),.d (.v (.slice none 0 0))])),([26],(ζ,ζ,.row 119 2 (List.map Iv.c (zip2To (fun x y=>Iv.widenOk l x y) (a.ints++a.arrs) (b.ints++b.arrs) j++[(Iv.widenOk l ((a.ints++a.arrs).getD (j) default) ((b.ints++b.arrs).getD (j) default))]))))]) [⟨[9],some 33,[],[]⟩,⟨[7],some 34,[],[]⟩,⟨[10],some 35,[],[]⟩,⟨[34,35],some 36,[],[]⟩,⟨[36],some 37,[],[]⟩,⟨[8],some 38,[],[]⟩,⟨[10],some 39,[],[]⟩,⟨[38,39],some 40,[],[]⟩,⟨[40],some 41,[],[]⟩,⟨[2],some 42,[],[]⟩,⟨[37,41,42],some 43,[],[]⟩,⟨[43],some 44,[],[[44]]⟩,⟨[33,44],some 45,[[26],[44]],[[44],[26]]⟩,⟨[45],some 9,[],[]⟩] (by kernel_rfl) (fun k21=>?_) ?_
    ·skip
     refine .move (.no Y) Y Y Y Y<|.move (.no Y) Y Y Y Y<|.move (.no Y) Y Y Y Y<|.indexAddr (.no Y) Y (j) t96 Y t119 Y Y Y (.d _ _) Y Y Y (map_get (by omega)) Y Y<|.load (.no Y) Y t119 Y Y (.d _) Y Y Y Y<|.move (.no Y) Y Y Y Y<|.move (.no Y) Y Y Y Y<|.indexAddr (.no Y) Y (j) t96 Y t119 Y Y Y (.d _ _) Y Y Y (map_get (by omega)) Y Y<|.load (.no Y) Y t119 Y Y (.d _) Y Y Y Y ?_
     refine .move (.no Y) Y Y Y Y<|.call (.no Y) Y [] [] (c_sIvWiden ((a.ints++a.arrs).getD (j) default) ((b.ints++b.arrs).getD (j) default) l) Y Y Y Y Y (.dd (.dd (.dd (.dd (.dd .nil))))) Y Y (fun h=>absurd Y h) (.own [43,0] (.own [43,1] .nil)) (.nil) Y Y Y (by simp) Y Y Y<|.buildSlice (.no Y) Y (els:=[[.v (.int .i64 ((Iv.widenOk l ((a.ints++a.arrs).getD (j) default) ((b.ints++b.arrs).getD (j) default)).lo)),.v (.int .i64 ((Iv.widenOk l ((a.ints++a.arrs).getD (j) default) ((b.ints++b.arrs).getD (j) default)).hi))]]) t96 Y z119 Y Y Y Y Y Y Y Y (by simp [i119]) (.cons _ _ _ _ _ _ (.d _) (.cons _ _ _ _ _ _ (.d _) .nil)) Y Y Y ?_
     refine .append (.no Y) Y (l3:=List.map Iv.c (zip2To (fun x y=>Iv.widenOk l x y) (a.ints++a.arrs) (b.ints++b.arrs) j++[(Iv.widenOk l ((a.ints++a.arrs).getD (j) default) ((b.ints++b.arrs).getD (j) default))])) t96 Y z119 Y Y Y Y Y Y Y Y (.ref _ _ _ _ Y) (.take _ _ _ _ _ Y) Y (by simp [i119]; omega) (map_snoc _ _ _) Y Y<|.assign (.no Y) Y Y Y Y ?_
     exact .fin (k21+1+1+1+1+1+1+1+1+1+1+1+1) (.of (.r Y) (.r Y))
    intro g22
    refine .rs fun k23=>.mv Y<|.bi Y<|.as Y<|.z ?_
    exact .here ((j+1),g22,g22) (.of (.cons Y (.cons Y (.cons Y (.cons Y (.cons Y (.cons Y (.cons (svI (show (IntKind.wrap .i64 ((j:Int)+1))=(((j+1):Int)) by first | rfl | omega | exact wrap_le (by omega) (by omega) | (rw [wrap_le (by omega) (by omega)]; omega))) .nil))))))) (.cons Y (.cons Y (.cons (rowE (show List.map Iv.c (zip2To (fun x y=>Iv.widenOk l x y) (a.ints++a.arrs) (b.ints++b.arrs) j++[(Iv.widenOk l ((a.ints++a.arrs).getD (j) default) ((b.ints++b.arrs).getD (j) default))])=List.map Iv.c (zip2To (fun x y=>Iv.widenOk l x y) (a.ints++a.arrs) (b.ints++b.arrs) (j+1)) by first | rfl | exact congrArg _ (zip2To_step (fun x y=>Iv.widenOk l x y) _ _ _))) .nil)))) ⟨(show (j+1)≤(a.ints++a.arrs).length by omega),(show (a.ints++a.arrs).length - (j+1) < (a.ints++a.arrs).length - j by omega)⟩
   ·have c1:=of_decide_eq_false c1
    refine .exit<|.seq<|.rs fun k24=>.mv Y<|.fp t98 t96 Y<|.ld t96 Y (.ptr _ _ _ _ _ Y) Y<|.g (fun _ τ=>⟨_,.len (.no Y) Y (z:=(a.ints.length:Int)) t96 Y Y Y (.d _ _) (map_len _ _) Y τ⟩) ?_
    refine .g (fun _ τ=>⟨_,.call (.no Y) Y [[26]] [([26],(q18,q19,.row 119 2 (List.map Iv.c (zip2To (fun x y=>Iv.widenOk l x y) (a.ints++a.arrs) (b.ints++b.arrs) j))))] (c_l6Of (zip2To (fun x y=>Iv.widenOk l x y) (a.ints++a.arrs) (b.ints++b.arrs) j) a.ints.length (by first | assumption | omega | (rw [zip2To_len]; simp at hI c1 ⊢; omega))) Y Y Y Y Y (.cons (Reads.ref (Frz.of_erase (erase_slo _ _ _ _ _ _ Iv.c_e)) (.head _) (.head _)).gives (.dd .nil)) Y Y (fun _=>(ownCons (Owned.v _) (ownCons (Owned.map _ _ _ _ Iv.c_o) (ownCons (Owned.map _ _ _ _ Iv.c_o) ownNil)))) (.own [50,0] (.own [50,1] (.own [50,2] .nil))) (.nil) Y Y Y (AllH.get (.r Y)) Y Y Y τ⟩)<|.g (fun _ τ=>⟨_,.store (.no Y) Y t98 Y Y Y Y Y Y Y Y Y τ⟩)<|.z<|.ret ?_
    have e25:((Env.mk true ((zip2To (fun x y=>Iv.widenOk l x y) (a.ints++a.arrs) (b.ints++b.arrs) j).take a.ints.length) ((zip2To (fun x y=>Iv.widenOk l x y) (a.ints++a.arrs) (b.ints++b.arrs) j).drop a.ints.length)).live)=((Env.joinW (fun x y=>Iv.widenOk l x y) a b).live):=by (have hj9:=hj c0.1 c0.2; first | (rw [Env.joinW_live c0]; done) | skip; rw [Env.joinW_live c0]; first | rfl | (rw [zip2To_all (fun x y=>Iv.widenOk l x y) hI (by omega)]; exact zip2_take _ hj9.1) | (rw [zip2To_all (fun x y=>Iv.widenOk l x y) hI (by omega)]; exact zip2_drop _ hj9.1))
    have e26:((Env.mk true ((zip2To (fun x y=>Iv.widenOk l x y) (a.ints++a.arrs) (b.ints++b.arrs) j).take a.ints.length) ((zip2To (fun x y=>Iv.widenOk l x y) (a.ints++a.arrs) (b.ints++b.arrs) j).drop a.ints.length)).ints)=((Env.joinW (fun x y=>Iv.widenOk l x y) a b).ints):=by (have hj9:=hj c0.1 c0.2; first | (rw [Env.joinW_live c0]; done) | skip; rw [Env.joinW_live c0]; first | rfl | (rw [zip2To_all (fun x y=>Iv.widenOk l x y) hI (by omega)]; exact zip2_take _ hj9.1) | (rw [zip2To_all (fun x y=>Iv.widenOk l x y) hI (by omega)]; exact zip2_drop _ hj9.1))
    have e27:((Env.mk true ((zip2To (fun x y=>Iv.widenOk l x y) (a.ints++a.arrs) (b.ints++b.arrs) j).take a.ints.length) ((zip2To (fun x y=>Iv.widenOk l x y) (a.ints++a.arrs) (b.ints++b.arrs) j).drop a.ints.length)).arrs)=((Env.joinW (fun x y=>Iv.widenOk l x y) a b).arrs):=by (have hj9:=hj c0.1 c0.2; first | (rw [Env.joinW_live c0]; done) | skip; rw [Env.joinW_live c0]; first | rfl | (rw [zip2To_all (fun x y=>Iv.widenOk l x y) hI (by omega)]; exact zip2_take _ hj9.1) | (rw [zip2To_all (fun x y=>Iv.widenOk l x y) hI (by omega)]; exact zip2_drop _ hj9.1))
    have hc28:=eq1 (fun z1=>some (k6+1+1,k24+1+1+1+1+1,O.box [.d (.v (.bool (z1))),.ref [50,1] (k24+1+1+1+1),.ref [50,2] (k24+1+1+1+1)])) e25
    exact fin1 (.inr Y) [] [([50,1],(k24+1+1+1+1,k24+1+1+1+1,.row 119 2 (List.map Iv.c ((Env.joinW (fun x y=>Iv.widenOk l x y) a b).ints)))),([50,2],(k24+1+1+1+1,k24+1+1+1+1,.row 119 2 (List.map Iv.c ((Env.joinW (fun x y=>Iv.widenOk l x y) a b).arrs))))] (.cell (cells:=[.d (.v (.bool ((Env.joinW (fun x y=>Iv.widenOk l x y) a b).live))),.ref [50,1] (k24+1+1+1+1),.ref [50,2] (k24+1+1+1+1)]) Y hc28 t98 Y Y .nil) (.dd (.cons (.ref (.head _)) (.cons (.ref (.tail _ (.head _))) .nil))) Y Y (.cons (rowE (congrArg (List.map Iv.c) e26)) (.cons (rowE (congrArg (List.map Iv.c) e27)) .nil))
end Go.Proofs

namespace Go.Proofs
open Go Go.Proofs Go.Ev

theorem c_widening1 (x:Iv) (y:Iv) (l:List Int):Trip Tryz.prog 107 [(true,2),(true,2),(false,1)] (Iv.c x++Iv.c y++[.pt false [.sl false 2 1 (List.map i64c (l))]]) [(true,2)] [.v (.int .i64 ((Iv.widenOk l x y).lo)),.v (.int .i64 ((Iv.widenOk l x y).hi))] []:=by
 refine Trip.of Tryz.func107 (by decide) (c:=_) Y Y (Nat.le_of_ble_eq_true Y) Y (AftOk.nil _)<|.seq<|.rs fun k1=>.g (fun _ τ=>⟨_,.box (.no Y) Y Y Y Y Y τ⟩)<|.g (fun _ τ=>⟨_,.box (.no Y) Y Y Y Y Y τ⟩)<|.g (fun _ τ=>⟨_,.alloc (.no Y) Y z119 Y Y Y τ⟩)<|.z<|.seq<|.rs fun k2=>?_
 refine .lda t119 Y (.ptr _ _ _ _ _ Y) Y<|.lda t119 Y (.ptr _ _ _ _ _ Y) Y<|.ld t41 Y (.d _) Y<|.c0 (c_IvWiden x y l) Y (.dd (.dd (.dd (.dd (.dd .nil))))) (.own [9,0] (.own [9,1] .nil)) Y<|.g (fun _ τ=>⟨_,.store (.no Y) Y t119 Y Y Y Y Y Y Y Y Y τ⟩)<|.z<|.ret ?_
 exact fin0 (.inr Y) (.cell (cells:=[.d (.v (.int .i64 ((Iv.widenOk l x y).lo))),.d (.v (.int .i64 ((Iv.widenOk l x y).hi)))]) Y Y t119 Y Y .nil) (.dd (.dd .nil)) Y
theorem c_widening (l:List Int):Trip Tryz.prog 59 [(false,1)] ([.sl false 2 1 (List.map i64c (l))]) [(false,1)] [.fn 107 [] [.pt false [.sl false 2 1 (List.map i64c (l))]]] []:=by
 refine Trip.of Tryz.func59 (by decide) (c:=_) Y Y (Nat.le_of_ble_eq_true Y) Y (AftOk.nil _)<|.sl (t:=0) Y fun hs1l=>.seq<|.rs fun k2=>.g (fun _ τ=>⟨_,.box (.no Y) Y Y Y Y Y τ⟩)<|.as Y<|.z<|.seq<|.rs fun k3=>?_
 refine .g (fun _ τ=>⟨_,.makeFunc (.no Y) Y Y Y Y Y τ⟩)<|.as Y<|.z<|.ret ?_
 exact fin1 (.inr Y) [[1]] [([1],(k2,k2,.box [.d (.sl false 2 1 (List.map i64c (l)))]))] (.one Y .nil) (.cons (Reads.clo0 (.cons (Reads.ptr0 (.head _) (.head _) (.cons (Reads.d _) .nil)) .nil)).gives .nil) Y Y (.r Y)
end Go.Proofs

namespace Go.Proofs
open Go Go.Proofs Go.Ev

theorem c_l6Leq (a:Env) (b:Env) (hj:a.live=true→b.live=true→a.ints.length=b.ints.length∧a.arrs.length=b.arrs.length) (hb:a.ints.length≤1048576∧a.arrs.length≤1048576∧b.ints.length≤1048576∧b.arrs.length≤1048576):Trip Tryz.prog 183 [(true,3),(true,3)] (Env.c98 a++Env.c98 b) [(false,1)] [.v (.bool (Env.leq a b))] []:=by
 refine Trip.of Tryz.func183 (by decide) (c:=_) Y Y (Nat.le_of_ble_eq_true Y) Y (AftOk.nil _)<|.sla (t:=0) 1 Y Y fun hs1l=>.sla (t:=0) 2 Y Y fun hs2l=>.sla (t:=1) 1 Y Y fun hs3l=>.sla (t:=1) 2 Y Y fun hs4l=>.seq<|.rs fun k5=>.g (fun _ τ=>⟨_,.box (.no Y) Y Y Y Y Y τ⟩)<|.g (fun _ τ=>⟨_,.box (.no Y) Y Y Y Y Y τ⟩) ?_
 refine .as Y<|.z<|.seq<|.seq ?_
 refine .reg (X:=Unit) (fun ζ=>.of [(2,.one (.ptr [2] (k5) 0)),(3,.one (.ptr [3] (k5+1) 0)),(15,.one (.d (.v (.bool ((!a.live||!b.live))))))] [([2],(k5,k5,.box [.d (.v (.bool (a.live))),.d (.sl false 119 2 (List.map Iv.c (a.ints))),.d (.sl false 119 2 (List.map Iv.c (a.arrs)))])),([3],(k5+1,k5+1,.box [.d (.v (.bool (b.live))),.d (.sl false 119 2 (List.map Iv.c (b.ints))),.d (.sl false 119 2 (List.map Iv.c (b.arrs)))]))]) [⟨[2],some 8,[],[]⟩,⟨[8],some 9,[[2]],[]⟩,⟨[9],some 10,[],[]⟩,⟨[10],some 11,[],[]⟩,⟨[11,3],some 12,[],[]⟩,⟨[11,12],some 13,[[3]],[]⟩,⟨[11,13],some 14,[],[]⟩,⟨[11,14],some 15,[],[]⟩] (fun k6=>?_) ?_
 ·skip
  refine .fieldAddrP (.no Y) Y t98 Y Y t4 Y Y Y Y<|.load (.no Y) Y t4 Y Y (.ptr _ _ _ _ _ Y) Y Y Y Y<|.un (.no Y) Y Y Y Y Y<|.moveB (.no Y) Y Y Y Y fun b7 g1_3=>?_
  cases b7
  ·skip
   refine .fieldAddrP (.on Y Y Y Y Y) Y t98 Y Y t4 Y Y Y Y<|.load (.on Y Y Y Y Y) Y t4 Y Y (.ptr _ _ _ _ _ Y) Y Y Y Y<|.un (.on Y Y Y Y Y) Y Y Y Y Y<|.pick (.no Y) Y Y Y Y Y ?_
   exact .fin () (.of (.cons Y (.cons Y (.cons (svB (show (!b.live)=((!a.live||!b.live)) by first | (simp only [g1_3,Bool.true_or,Bool.false_or,Bool.true_and,Bool.false_and,Bool.not_true,Bool.not_false]; done) | (simp [g1_3]; done) | (exfalso; simp_all; done))) .nil))) (.r Y))
  ·skip
   refine .off Y Y Y Y Y Y Y<|.off Y Y Y Y Y Y Y<|.off Y Y Y Y Y Y Y<|.pick (.no Y) Y Y Y Y Y ?_
   exact .fin () (.of (.cons Y (.cons Y (.cons (svB (show (true)=((!a.live||!b.live)) by first | (simp only [g1_3,Bool.true_or,Bool.false_or,Bool.true_and,Bool.false_and,Bool.not_true,Bool.not_false]; done) | (simp [g1_3]; done) | (exfalso; simp_all; done))) .nil))) (.r Y))
 intro _
 refine .cond (t:=(!a.live||!b.live)) Y (fun c0=>?_) (fun c0=>?_)
 ·have c0:=(oT (nT id) (nT id)) c0
  refine .seq<|.rs fun k8=>.fp t98 t4 Y<|.ld t4 Y (.ptr _ _ _ _ _ Y) Y<|.un Y<|.as Y<|.z<|.ret ?_
  exact fin0 (.inr Y) (.one (svB (show (!a.live)=(Env.leq a b) by (unfold Env.leq; cases h1:a.live<;>cases h2:b.live<;>simp_all))) .nil) (.dd .nil) Y
 ·have c0:=(oF (nF id) (nF id)) c0
  refine .skip<|.seq<|.rs fun k10=>.lda t98 Y (.ptr _ _ _ _ _ Y) Y<|.c0 (c_l6List a (by omega)) Y (.dd (.dd (.dd .nil))) (.frz [20,0] (Frz.of_erase (erase_slo _ _ _ _ _ _ Iv.c_e)) .nil) Y<|.as Y<|.z<|.seq<|.rs fun k11=>?_
  refine .lda t98 Y (.ptr _ _ _ _ _ Y) Y<|.c0 (c_l6List b (by omega)) Y (.dd (.dd (.dd .nil))) (.frz [22,0] (Frz.of_erase (erase_slo _ _ _ _ _ _ Iv.c_e)) .nil) Y<|.as Y<|.z<|.seq<|.seq<|.rs fun k12=>.as Y<|.z ?_
  refine .block ?_
  refine .loop (X:=Nat) (fun ζ=>.of [(5,.one (.d (.sl false 119 2 (List.map Iv.c (a.ints++a.arrs))))),(6,.one (.d (.sl false 119 2 (List.map Iv.c (b.ints++b.arrs))))),(7,.one (.d (.v (.int .i64 ((ζ:Int))))))] []) (fun ζ=>ζ≤(a.ints++a.arrs).length∧allTo ζ (fun i=>Iv.leq ((a.ints++a.arrs).getD i default) ((b.ints++b.arrs).getD i default))=true) (fun ζ=>(a.ints++a.arrs).length - ζ) ?_ ?_
  ·skip
   exact .here 0 (.of (.cons Y (.cons Y (.cons (svI (show (0)=((0:Int)) by first | rfl | omega | exact wrap_le (by omega) (by omega) | (rw [wrap_le (by omega) (by omega)]; omega))) .nil))) .nil) (show 0≤(a.ints++a.arrs).length∧allTo 0 (fun i=>Iv.leq ((a.ints++a.arrs).getD i default) ((b.ints++b.arrs).getD i default))=true by exact ⟨by omega,rfl⟩)
  ·rintro j hI
   have hI:j≤(a.ints++a.arrs).length∧allTo j (fun i=>Iv.leq ((a.ints++a.arrs).getD i default) ((b.ints++b.arrs).getD i default))=true:=hI
   have hn9:(a.ints++a.arrs).length≤3145728:=by simp; omega
   have hn8:(a.ints++a.arrs).length=(b.ints++b.arrs).length:=by have:=hj c0.1 c0.2; simp; omega
   refine .seq<|.seq<|.rs fun k13=>.mv Y<|.mv Y<|.g (fun _ τ=>⟨_,.len (.no Y) Y (z:=((a.ints++a.arrs).length:Int)) t96 Y Y Y (.d _ _) (map_len _ _) Y τ⟩)<|.bi Y<|.z ?_
   refine .cond (t:=decide ((j:Int) < ((a.ints++a.arrs).length:Int))) Y (fun c1=>?_) (fun c1=>?_)
   ·have c1:=of_decide_eq_true c1
    refine .skip<|.seq<|.block<|.seq ?_
    refine .regD (X:=Unit) (by kernel_rfl) (fun ζ=>.of [(5,.one (.d (.sl false 119 2 (List.map Iv.c (a.ints++a.arrs))))),(6,.one (.d (.sl false 119 2 (List.map Iv.c (b.ints++b.arrs))))),(7,.one (.d (.v (.int .i64 ((j:Int)))))),(38,.one (.d (.v (.bool (!(Iv.leq ((a.ints++a.arrs).getD (j) default) ((b.ints++b.arrs).getD (j) default)))))))] []) [⟨[5],some 29,[],[]⟩,⟨[7],some 30,[],[]⟩,⟨[29,30],some 31,[],[]⟩,⟨[31],some 32,[],[]⟩,⟨[6],some 33,[],[]⟩,⟨[7],some 34,[],[]⟩,⟨[33,34],some 35,[],[]⟩,⟨[35],some 36,[],[]⟩,⟨[32,36],some 37,[],[]⟩,⟨[37],some 38,[],[]⟩] (by kernel_rfl) (fun k14=>?_) ?_
    ·skip
     refine .move (.no Y) Y Y Y Y<|.move (.no Y) Y Y Y Y<|.indexAddr (.no Y) Y (j) t96 Y t119 Y Y Y (.d _ _) Y Y Y (map_get (by omega)) Y Y<|.load (.no Y) Y t119 Y Y (.d _) Y Y Y Y<|.move (.no Y) Y Y Y Y<|.move (.no Y) Y Y Y Y<|.indexAddr (.no Y) Y (j) t96 Y t119 Y Y Y (.d _ _) Y Y Y (map_get (by omega)) Y Y<|.load (.no Y) Y t119 Y Y (.d _) Y Y Y Y<|.call (.no Y) Y [] [] (c_sIvLeq ((a.ints++a.arrs).getD (j) default) ((b.ints++b.arrs).getD (j) default)) Y Y Y Y Y (.dd (.dd (.dd (.dd .nil)))) Y Y (fun h=>absurd Y h) (.own [37,0] .nil) (.nil) Y Y Y (by simp) Y Y Y ?_
     refine .un (.no Y) Y Y Y Y Y ?_
     exact .fin () (.of (.r Y) .nil)
    intro _
    refine .cond (t:=!(Iv.leq ((a.ints++a.arrs).getD (j) default) ((b.ints++b.arrs).getD (j) default))) Y (fun c2=>?_) (fun c2=>?_)
    ·have c2:=(nT id) c2
     refine .seq<|.rs fun k15=>.as Y<|.z<|.ret ?_
     exact fin0 (.inr Y) (.one (svB (show (false)=(Env.leq a b) by (rw [Env.leq_app c0.1 c0.2 (hj c0.1 c0.2).1,allTo_fail (j:=j) (by omega) c2]))) .nil) (.dd .nil) Y
    ·have c2:=(nF id) c2
     refine .skip<|.rs fun k17=>.mv Y<|.bi Y<|.as Y<|.z ?_
     exact .here (j+1) (.of (.cons Y (.cons Y (.cons (svI (show (IntKind.wrap .i64 ((j:Int)+1))=(((j+1):Int)) by first | rfl | omega | exact wrap_le (by omega) (by omega) | (rw [wrap_le (by omega) (by omega)]; omega))) .nil))) .nil) ⟨(show (j+1)≤(a.ints++a.arrs).length∧allTo (j+1) (fun i=>Iv.leq ((a.ints++a.arrs).getD i default) ((b.ints++b.arrs).getD i default))=true by exact ⟨by omega,allTo_step hI.2 c2⟩),(show (a.ints++a.arrs).length - (j+1) < (a.ints++a.arrs).length - j by omega)⟩
   ·have c1:=of_decide_eq_false c1
    refine .exit<|.seq<|.rs fun k18=>.as Y<|.z<|.ret ?_
    exact fin0 (.inr Y) (.one (svB (show (true)=(Env.leq a b) by (rw [Env.leq_app c0.1 c0.2 (hj c0.1 c0.2).1]; exact (allTo_le (by omega) hI.2).symm))) .nil) (.dd .nil) Y
theorem c_leq (e:Env) (b:Env) (hj:e.live=true→b.live=true→e.ints.length=b.ints.length∧e.arrs.length=b.arrs.length):Trip Tryz.prog 182 [(true,3),(true,3)] (Env.c98 e++Env.c98 b) [(false,1)] [.v (.bool (Env.leq e b))] []:=by
 refine Trip.of Tryz.func182 (by decide) (c:=_) Y Y (Nat.le_of_ble_eq_true Y) Y (AftOk.nil _)<|.sla (t:=0) 1 Y Y fun hs1l=>.sla (t:=0) 2 Y Y fun hs2l=>.sla (t:=1) 1 Y Y fun hs3l=>.sla (t:=1) 2 Y Y fun hs4l=>.seq<|.rs fun k5=>.g (fun _ τ=>⟨_,.box (.no Y) Y Y Y Y Y τ⟩)<|.g (fun _ τ=>⟨_,.box (.no Y) Y Y Y Y Y τ⟩) ?_
 refine .as Y<|.z<|.seq<|.block<|.seq<|.rs fun k6=>.fp t98 t4 Y<|.ld t4 Y (.ptr _ _ _ _ _ Y) Y<|.un Y ?_
 refine .as Y<|.z ?_
 refine .cond (t:=!e.live) Y (fun c0=>?_) (fun c0=>?_)
 ·have c0:=(nT id) c0
  refine .seq<|.rs fun k7=>.as Y<|.z<|.ret ?_
  exact fin0 (.inr Y) (.one (svB (show (true)=(Env.leq e b) by simp [Env.leq,c0])) .nil) (.dd .nil) Y
 ·have c0:=(nF id) c0
  refine .seq<|.rs fun k9=>.fp t98 t4 Y<|.ld t4 Y (.ptr _ _ _ _ _ Y) Y<|.un Y<|.as Y<|.z ?_
  refine .cond (t:=!b.live) Y (fun c1=>?_) (fun c1=>?_)
  ·have c1:=(nT id) c1
   refine .seq<|.rs fun k10=>.as Y<|.z<|.ret ?_
   exact fin0 (.inr Y) (.one (svB (show (false)=(Env.leq e b) by simp [Env.leq,c0,c1])) .nil) (.dd .nil) Y
  ·have c1:=(nF id) c1
   refine .skip<|.seq<|.seq<|.rs fun k12=>.fp t98 t96 Y<|.ld t96 Y (.ptr _ _ _ _ _ Y) Y<|.g (fun _ τ=>⟨_,.len (.no Y) Y (z:=(e.ints.length:Int)) t96 Y Y Y (.d _ _) (map_len _ _) Y τ⟩)<|.mv Y<|.z ?_
   refine .block ?_
   refine .loop (X:=Nat) (fun ζ=>.of [(2,.one (.ptr [2] (k5) 0)),(3,.one (.ptr [3] (k5+1) 0)),(18,.one (.d (.sl false 119 2 (List.map Iv.c (e.ints))))),(19,.one (.d (.v (.int .i64 ((e.ints.length:Int)))))),(20,.one (.d (.v (.int .i64 ((ζ:Int))))))] [([2],(k5,k5,.box [.d (.v (.bool (e.live))),.d (.sl false 119 2 (List.map Iv.c (e.ints))),.d (.sl false 119 2 (List.map Iv.c (e.arrs)))])),([3],(k5+1,k5+1,.box [.d (.v (.bool (b.live))),.d (.sl false 119 2 (List.map Iv.c (b.ints))),.d (.sl false 119 2 (List.map Iv.c (b.arrs)))]))]) (fun ζ=>ζ≤e.ints.length∧allTo ζ (fun x=>Iv.leq (e.ints.getD x default) (b.ints.getD x default))=true) (fun ζ=>e.ints.length - ζ) ?_ ?_
   ·skip
    exact .here 0 (.of (.cons Y (.cons Y (.cons Y (.cons Y (.cons (svI (show (0)=((0:Int)) by first | rfl | omega | exact wrap_le (by omega) (by omega) | (rw [wrap_le (by omega) (by omega)]; omega))) .nil))))) (.r Y)) (show 0≤e.ints.length∧allTo 0 (fun x=>Iv.leq (e.ints.getD x default) (b.ints.getD x default))=true by exact ⟨by omega,rfl⟩)
   ·rintro j hI
    have hI:j≤e.ints.length∧allTo j (fun x=>Iv.leq (e.ints.getD x default) (b.ints.getD x default))=true:=hI
    have hj9:=hj c0 c1
    refine .seq<|.rs fun k13=>.bi Y<|.z<|.seq ?_
    refine .cond (t:=decide ((j:Int) < (e.ints.length:Int))) Y (fun c2=>?_) (fun c2=>?_)
    ·have c2:=of_decide_eq_true c2
     refine .skip<|.seq<|.block<|.seq<|.rs fun k14=>.mv Y<|.g (fun _ τ=>⟨_,.indexAddr (.no Y) Y (j) t96 Y t119 Y Y Y (.d _ _) Y Y Y (map_get (by omega)) Y Y τ⟩)<|.lda t119 Y (.d _) Y<|.g (fun _ τ=>⟨_,.alloc (.no Y) Y z119 Y Y Y τ⟩) ?_
     refine .as Y<|.g (fun _ τ=>⟨_,.store (.no Y) Y t119 Y Y Y Y Y Y Y Y Y τ⟩)<|.z<|.seq ?_
     refine .regD (X:=Unit) (by kernel_rfl) (fun ζ=>.of [(2,.one (.ptr [2] (k5) 0)),(3,.one (.ptr [3] (k5+1) 0)),(18,.one (.d (.sl false 119 2 (List.map Iv.c (e.ints))))),(19,.one (.d (.v (.int .i64 ((e.ints.length:Int)))))),(20,.one (.d (.v (.int .i64 ((j:Int)))))),(32,.one (.d (.v (.bool (!(Iv.leq (e.ints.getD j default) (b.ints.getD j default)))))))] [([2],(k5,k5,.box [.d (.v (.bool (e.live))),.d (.sl false 119 2 (List.map Iv.c (e.ints))),.d (.sl false 119 2 (List.map Iv.c (e.arrs)))])),([3],(k5+1,k5+1,.box [.d (.v (.bool (b.live))),.d (.sl false 119 2 (List.map Iv.c (b.ints))),.d (.sl false 119 2 (List.map Iv.c (b.arrs)))]))]) [⟨[6],some 25,[[6]],[]⟩,⟨[3],some 26,[],[]⟩,⟨[26],some 27,[[3]],[]⟩,⟨[5],some 28,[],[]⟩,⟨[27,28],some 29,[],[]⟩,⟨[29],some 30,[],[]⟩,⟨[25,30],some 31,[],[]⟩,⟨[31],some 32,[],[]⟩] (by kernel_rfl) (fun k15=>?_) ?_
     ·skip
      refine .load (.no Y) Y t119 Y Y (.ptr _ _ _ _ _ Y) Y Y Y Y<|.fieldAddrP (.no Y) Y t98 Y Y t96 Y Y Y Y<|.load (.no Y) Y t96 Y Y (.ptr _ _ _ _ _ Y) Y Y Y Y<|.move (.no Y) Y Y Y Y<|.indexAddr (.no Y) Y (j) t96 Y t119 Y Y Y (.d _ _) Y Y Y (map_get (by omega)) Y Y<|.load (.no Y) Y t119 Y Y (.d _) Y Y Y Y<|.call (.no Y) Y [] [] (c_IvLeq (e.ints.getD j default) (b.ints.getD j default)) Y Y Y Y Y (.dd (.dd (.dd (.dd .nil)))) Y Y (fun h=>absurd Y h) (.own [31,0] .nil) (.nil) Y Y Y (by simp) Y Y Y<|.un (.no Y) Y Y Y Y Y ?_
      exact .fin () (.of (.r Y) (.r Y))
     intro _
     refine .cond (t:=!(Iv.leq (e.ints.getD j default) (b.ints.getD j default))) Y (fun c3=>?_) (fun c3=>?_)
     ·have c3:=(nT id) c3
      refine .seq<|.rs fun k16=>.as Y<|.z<|.ret ?_
      exact fin0 (.inr Y) (.one (svB (show (false)=(Env.leq e b) by (unfold Env.leq; rw [if_pos c0,if_pos c1,allTo_fail (j:=j) (by omega) c3]; rfl))) .nil) (.dd .nil) Y
     ·have c3:=(nF id) c3
      refine .skip<|.rs fun k18=>.bi Y<|.mv Y<|.z ?_
      exact .here (j+1) (.of (.cons Y (.cons Y (.cons Y (.cons Y (.cons (svI (show (IntKind.wrap .i64 ((j:Int)+1))=(((j+1):Int)) by first | rfl | omega | exact wrap_le (by omega) (by omega) | (rw [wrap_le (by omega) (by omega)]; omega))) .nil))))) (.r Y)) ⟨(show (j+1)≤e.ints.length∧allTo (j+1) (fun x=>Iv.leq (e.ints.getD x default) (b.ints.getD x default))=true by exact ⟨by omega,allTo_step hI.2 c3⟩),(show e.ints.length - (j+1) < e.ints.length - j by omega)⟩
    ·have c2:=of_decide_eq_false c2
     refine .exit<|.seq<|.seq<|.rs fun k19=>.fp t98 t96 Y<|.ld t96 Y (.ptr _ _ _ _ _ Y) Y<|.g (fun _ τ=>⟨_,.len (.no Y) Y (z:=(e.arrs.length:Int)) t96 Y Y Y (.d _ _) (map_len _ _) Y τ⟩)<|.mv Y<|.z ?_
     refine .block ?_
     refine .loop (X:=Nat) (fun ζ=>.of [(3,.one (.ptr [3] (k5+1) 0)),(35,.one (.d (.sl false 119 2 (List.map Iv.c (e.arrs))))),(36,.one (.d (.v (.int .i64 ((e.arrs.length:Int)))))),(37,.one (.d (.v (.int .i64 ((ζ:Int))))))] [([3],(k5+1,k5+1,.box [.d (.v (.bool (b.live))),.d (.sl false 119 2 (List.map Iv.c (b.ints))),.d (.sl false 119 2 (List.map Iv.c (b.arrs)))]))]) (fun ζ=>ζ≤e.arrs.length∧allTo ζ (fun x=>Iv.leq (e.arrs.getD x default) (b.arrs.getD x default))=true) (fun ζ=>e.arrs.length - ζ) ?_ ?_
     ·skip
      exact .here 0 (.of (.cons Y (.cons Y (.cons Y (.cons (svI (show (0)=((0:Int)) by first | rfl | omega | exact wrap_le (by omega) (by omega) | (rw [wrap_le (by omega) (by omega)]; omega))) .nil)))) (.r Y)) (show 0≤e.arrs.length∧allTo 0 (fun x=>Iv.leq (e.arrs.getD x default) (b.arrs.getD x default))=true by exact ⟨by omega,rfl⟩)
     ·rintro i hI
      have hI:i≤e.arrs.length∧allTo i (fun x=>Iv.leq (e.arrs.getD x default) (b.arrs.getD x default))=true:=hI
      have hj9:=hj c0 c1
      have hI0:=‹j≤e.ints.length∧_›
      refine .seq<|.rs fun k20=>.bi Y<|.z<|.seq ?_
      refine .cond (t:=decide ((i:Int) < (e.arrs.length:Int))) Y (fun c4=>?_) (fun c4=>?_)
      ·have c4:=of_decide_eq_true c4
       refine .skip<|.seq<|.block<|.seq<|.rs fun k21=>.mv Y<|.g (fun _ τ=>⟨_,.indexAddr (.no Y) Y (i) t96 Y t119 Y Y Y (.d _ _) Y Y Y (map_get (by omega)) Y Y τ⟩)<|.lda t119 Y (.d _) Y<|.g (fun _ τ=>⟨_,.alloc (.no Y) Y z119 Y Y Y τ⟩) ?_
       refine .as Y<|.g (fun _ τ=>⟨_,.store (.no Y) Y t119 Y Y Y Y Y Y Y Y Y τ⟩)<|.z<|.seq ?_
       refine .regD (X:=Unit) (by kernel_rfl) (fun ζ=>.of [(3,.one (.ptr [3] (k5+1) 0)),(35,.one (.d (.sl false 119 2 (List.map Iv.c (e.arrs))))),(36,.one (.d (.v (.int .i64 ((e.arrs.length:Int)))))),(37,.one (.d (.v (.int .i64 ((i:Int)))))),(49,.one (.d (.v (.bool (!(Iv.leq (e.arrs.getD i default) (b.arrs.getD i default)))))))] [([3],(k5+1,k5+1,.box [.d (.v (.bool (b.live))),.d (.sl false 119 2 (List.map Iv.c (b.ints))),.d (.sl false 119 2 (List.map Iv.c (b.arrs)))]))]) [⟨[8],some 42,[[8]],[]⟩,⟨[3],some 43,[],[]⟩,⟨[43],some 44,[[3]],[]⟩,⟨[7],some 45,[],[]⟩,⟨[44,45],some 46,[],[]⟩,⟨[46],some 47,[],[]⟩,⟨[42,47],some 48,[],[]⟩,⟨[48],some 49,[],[]⟩] (by kernel_rfl) (fun k22=>?_) ?_
       ·skip
        refine .load (.no Y) Y t119 Y Y (.ptr _ _ _ _ _ Y) Y Y Y Y<|.fieldAddrP (.no Y) Y t98 Y Y t96 Y Y Y Y<|.load (.no Y) Y t96 Y Y (.ptr _ _ _ _ _ Y) Y Y Y Y<|.move (.no Y) Y Y Y Y<|.indexAddr (.no Y) Y (i) t96 Y t119 Y Y Y (.d _ _) Y Y Y (map_get (by omega)) Y Y<|.load (.no Y) Y t119 Y Y (.d _) Y Y Y Y<|.call (.no Y) Y [] [] (c_IvLeq (e.arrs.getD i default) (b.arrs.getD i default)) Y Y Y Y Y (.dd (.dd (.dd (.dd .nil)))) Y Y (fun h=>absurd Y h) (.own [48,0] .nil) (.nil) Y Y Y (by simp) Y Y Y<|.un (.no Y) Y Y Y Y Y ?_
        exact .fin () (.of (.r Y) (.r Y))
       intro _
       refine .cond (t:=!(Iv.leq (e.arrs.getD i default) (b.arrs.getD i default))) Y (fun c5=>?_) (fun c5=>?_)
       ·have c5:=(nT id) c5
        refine .seq<|.rs fun k23=>.as Y<|.z<|.ret ?_
        exact fin0 (.inr Y) (.one (svB (show (false)=(Env.leq e b) by (unfold Env.leq; rw [if_pos c0,if_pos c1,allTo_fail (j:=i) (n:=e.arrs.length) (by omega) c5,Bool.and_false]))) .nil) (.dd .nil) Y
       ·have c5:=(nF id) c5
        refine .skip<|.rs fun k25=>.bi Y<|.mv Y<|.z ?_
        exact .here (i+1) (.of (.cons Y (.cons Y (.cons Y (.cons (svI (show (IntKind.wrap .i64 ((i:Int)+1))=(((i+1):Int)) by first | rfl | omega | exact wrap_le (by omega) (by omega) | (rw [wrap_le (by omega) (by omega)]; omega))) .nil)))) (.r Y)) ⟨(show (i+1)≤e.arrs.length∧allTo (i+1) (fun x=>Iv.leq (e.arrs.getD x default) (b.arrs.getD x default))=true by exact ⟨by omega,allTo_step hI.2 c5⟩),(show e.arrs.length - (i+1) < e.arrs.length - i by omega)⟩
      ·have c4:=of_decide_eq_false c4
       refine .exit<|.seq<|.rs fun k26=>.as Y<|.z<|.ret ?_
       exact fin0 (.inr Y) (.one (svB (show (true)=(Env.leq e b) by (unfold Env.leq; rw [if_pos c0,if_pos c1,allTo_le (by omega) hI0.2,allTo_le (by omega) hI.2]; rfl))) .nil) (.dd .nil) Y
end Go.Proofs

namespace Go.Proofs
open Go Go.Proofs Go.Ev

def i60:TI:=⟨.sl 98,1,24,[.slice none 0 0]⟩
theorem t60:TyOk Tryz.prog 60 i60:=⟨Tryz.underlying60,by kernel_rfl⟩
theorem z60:ZOk Tryz.prog 60 i60:=⟨t60,rfl⟩
def i100:TI:=⟨.int .u64,1,8,[.int .u64 0]⟩
theorem t100:TyOk Tryz.prog 100 i100:=⟨Tryz.underlying100,by kernel_rfl⟩
theorem z100:ZOk Tryz.prog 100 i100:=⟨t100,rfl⟩
def i200:TI:=⟨.fn,1,8,[.nilFunc]⟩
theorem t200:TyOk Tryz.prog 200 i200:=⟨⟨_,_,_,Tryz.underlying200⟩,by kernel_rfl⟩
theorem z200:ZOk Tryz.prog 200 i200:=⟨t200,rfl⟩
theorem c_l8Leq (a:List Env) (b:List Env) (hl:a.length=b.length∧a.length≤1048576) (hf:∀ i,i < a.length→(a.getD i default).live=true→(b.getD i default).live=true→(a.getD i default).ints.length=(b.getD i default).ints.length∧(a.getD i default).arrs.length=(b.getD i default).arrs.length) (hx:∀ x∈a,x.ints.length≤1048576∧x.arrs.length≤1048576) (hy:∀ x∈b,x.ints.length≤1048576∧x.arrs.length≤1048576):Trip Tryz.prog 138 [(false,1),(false,1)] ([.sl false 98 3 (List.map Env.c98 (a))]++[.sl false 98 3 (List.map Env.c98 (b))]) [(false,1)] [.v (.bool (tabLeq a b))] []:=by
 refine Trip.of Tryz.func138 (by decide) (c:=_) Y Y (Nat.le_of_ble_eq_true Y) Y (AftOk.nil _)<|.sl (t:=0) Y fun hs1l=>.sl (t:=1) Y fun hs2l=>.seq<|.rs fun k3=>.as Y<|.z<|.seq<|.seq ?_
 refine .rs fun k4=>.as Y<|.z<|.block ?_
 refine .loop (X:=Nat) (fun ζ=>.of [(0,.one (.d (.sl false 98 3 (List.map Env.c98 (a))))),(1,.one (.d (.sl false 98 3 (List.map Env.c98 (b))))),(5,.one (.d (.v (.int .i64 ((ζ:Int))))))] []) (fun ζ=>ζ≤a.length∧allTo ζ (fun i=>Env.leq (a.getD i default) (b.getD i default))=true) (fun ζ=>a.length - ζ) ?_ ?_
 ·skip
  exact .here 0 (.of (.cons Y (.cons Y (.cons (svI (show (0)=((0:Int)) by first | rfl | omega | exact wrap_le (by omega) (by omega) | (rw [wrap_le (by omega) (by omega)]; omega))) .nil))) .nil) (show 0≤a.length∧allTo 0 (fun i=>Env.leq (a.getD i default) (b.getD i default))=true by exact ⟨by omega,rfl⟩)
 ·rintro j hI
  have hI:j≤a.length∧allTo j (fun i=>Env.leq (a.getD i default) (b.getD i default))=true:=hI
  refine .seq<|.seq<|.rs fun k5=>.mv Y<|.mv Y<|.g (fun _ τ=>⟨_,.len (.no Y) Y (z:=(a.length:Int)) t60 Y Y Y (.d _ _) (map_len _ _) Y τ⟩)<|.bi Y<|.z ?_
  refine .cond (t:=decide ((j:Int) < (a.length:Int))) Y (fun c0=>?_) (fun c0=>?_)
  ·have c0:=of_decide_eq_true c0
   refine .skip<|.seq<|.block<|.seq ?_
   refine .regD (X:=Unit) (by kernel_rfl) (fun ζ=>.of [(0,.one (.d (.sl false 98 3 (List.map Env.c98 (a))))),(1,.one (.d (.sl false 98 3 (List.map Env.c98 (b))))),(5,.one (.d (.v (.int .i64 ((j:Int)))))),(21,.one (.d (.v (.bool (!(Env.leq (a.getD j default) (b.getD j default)))))))] []) [⟨[0],some 12,[],[]⟩,⟨[5],some 13,[],[]⟩,⟨[12,13],some 14,[],[]⟩,⟨[14],some 15,[],[]⟩,⟨[1],some 16,[],[]⟩,⟨[5],some 17,[],[]⟩,⟨[16,17],some 18,[],[]⟩,⟨[18],some 19,[],[]⟩,⟨[15,19],some 20,[],[]⟩,⟨[20],some 21,[],[]⟩] (by kernel_rfl) (fun k6=>?_) ?_
   ·skip
    refine .move (.no Y) Y Y Y Y<|.move (.no Y) Y Y Y Y<|.indexAddr (.no Y) Y (j) t60 Y t98 Y Y Y (.d _ _) Y Y Y (map_get (by omega)) Y Y<|.load (.no Y) Y t98 Y Y (.d _) Y Y Y Y<|.move (.no Y) Y Y Y Y<|.move (.no Y) Y Y Y Y<|.indexAddr (.no Y) Y (j) t60 Y t98 Y Y Y (.d _ _) Y Y Y (map_get (by omega)) Y Y<|.load (.no Y) Y t98 Y Y (.d _) Y Y Y Y ?_
    refine .call (.no Y) Y [] [] (c_l6Leq (a.getD j default) (b.getD j default) (by first | exact hf j (by omega) | (have h8:=hx _ (getD_mem (j:=j) (by omega)); have h9:=hy _ (getD_mem (j:=j) (by omega)); omega)) (by first | exact hf j (by omega) | (have h8:=hx _ (getD_mem (j:=j) (by omega)); have h9:=hy _ (getD_mem (j:=j) (by omega)); omega))) Y Y Y Y Y (.dd (.dd (.dd (.dd (.dd (.dd .nil)))))) Y Y (fun h=>absurd Y h) (.own [20,0] .nil) (.nil) Y Y Y (by simp) Y Y Y<|.un (.no Y) Y Y Y Y Y ?_
    exact .fin () (.of (.r Y) .nil)
   intro _
   refine .cond (t:=!(Env.leq (a.getD j default) (b.getD j default))) Y (fun c1=>?_) (fun c1=>?_)
   ·have c1:=(nT id) c1
    refine .seq<|.rs fun k7=>.as Y<|.z<|.ret ?_
    exact fin0 (.inr Y) (.one (svB (show (false)=(tabLeq a b) by (unfold tabLeq; rw [allTo_fail (j:=j) (by omega) c1]))) .nil) (.dd .nil) Y
   ·have c1:=(nF id) c1
    refine .skip<|.rs fun k9=>.mv Y<|.bi Y<|.as Y<|.z ?_
    exact .here (j+1) (.of (.cons Y (.cons Y (.cons (svI (show (IntKind.wrap .i64 ((j:Int)+1))=(((j+1):Int)) by first | rfl | omega | exact wrap_le (by omega) (by omega) | (rw [wrap_le (by omega) (by omega)]; omega))) .nil))) .nil) ⟨(show (j+1)≤a.length∧allTo (j+1) (fun i=>Env.leq (a.getD i default) (b.getD i default))=true by exact ⟨by omega,allTo_step hI.2 c1⟩),(show a.length - (j+1) < a.length - j by omega)⟩
  ·have c0:=of_decide_eq_false c0
   refine .exit<|.seq<|.rs fun k10=>.as Y<|.z<|.ret ?_
   exact fin0 (.inr Y) (.one (svB (show (true)=(tabLeq a b) by (unfold tabLeq; exact (allTo_le (by omega) hI.2).symm))) .nil) (.dd .nil) Y
theorem c_tableLeq (a:List Env) (b:List Env) (hl:a.length=b.length∧a.length≤1048576) (hf:∀ i,i < a.length→(a.getD i default).live=true→(b.getD i default).live=true→(a.getD i default).ints.length=(b.getD i default).ints.length∧(a.getD i default).arrs.length=(b.getD i default).arrs.length) (hx:∀ x∈a,x.ints.length≤1048576∧x.arrs.length≤1048576) (hy:∀ x∈b,x.ints.length≤1048576∧x.arrs.length≤1048576):Trip Tryz.prog 136 [(false,1),(false,1)] ([.sl false 98 3 (List.map Env.c98 (a))]++[.sl false 98 3 (List.map Env.c98 (b))]) [(false,1)] [.v (.bool (tabLeq a b))] []:=by
 refine Trip.of Tryz.func136 (by decide) (c:=_) Y Y (Nat.le_of_ble_eq_true Y) Y (AftOk.nil _)<|.sl (t:=0) Y fun hs1l=>.sl (t:=1) Y fun hs2l=>.seq<|.rs fun k3=>.as Y<|.z<|.seq<|.seq ?_
 refine .rs fun k4=>.mv Y<|.g (fun _ τ=>⟨_,.len (.no Y) Y (z:=(a.length:Int)) t60 Y Y Y (.d _ _) (map_len _ _) Y τ⟩)<|.mv Y<|.z<|.block ?_
 refine .loop (X:=Nat) (fun ζ=>.of [(1,.one (.d (.sl false 98 3 (List.map Env.c98 (b))))),(7,.one (.d (.sl false 98 3 (List.map Env.c98 (a))))),(8,.one (.d (.v (.int .i64 ((a.length:Int)))))),(9,.one (.d (.v (.int .i64 ((ζ:Int))))))] []) (fun ζ=>ζ≤a.length∧allTo ζ (fun i=>Env.leq (a.getD i default) (b.getD i default))=true) (fun ζ=>a.length - ζ) ?_ ?_
 ·skip
  exact .here 0 (.of (.cons Y (.cons Y (.cons Y (.cons (svI (show (0)=((0:Int)) by first | rfl | omega | exact wrap_le (by omega) (by omega) | (rw [wrap_le (by omega) (by omega)]; omega))) .nil)))) .nil) (show 0≤a.length∧allTo 0 (fun i=>Env.leq (a.getD i default) (b.getD i default))=true by exact ⟨by omega,rfl⟩)
 ·rintro j hI
  have hI:j≤a.length∧allTo j (fun i=>Env.leq (a.getD i default) (b.getD i default))=true:=hI
  refine .seq<|.rs fun k5=>.bi Y<|.z<|.seq ?_
  refine .cond (t:=decide ((j:Int) < (a.length:Int))) Y (fun c0=>?_) (fun c0=>?_)
  ·have c0:=of_decide_eq_true c0
   refine .skip<|.seq<|.block<|.seq<|.rs fun k6=>.mv Y<|.g (fun _ τ=>⟨_,.indexAddr (.no Y) Y (j) t60 Y t98 Y Y Y (.d _ _) Y Y Y (map_get (by omega)) Y Y τ⟩)<|.lda t98 Y (.d _) Y<|.g (fun _ τ=>⟨_,.alloc (.no Y) Y z98 Y Y Y τ⟩) ?_
   refine .as Y<|.g (fun _ τ=>⟨_,.store (.no Y) Y t98 Y Y Y Y Y Y Y Y Y τ⟩)<|.z<|.seq ?_
   refine .regD (X:=Unit) (by kernel_rfl) (fun ζ=>.of [(1,.one (.d (.sl false 98 3 (List.map Env.c98 (b))))),(7,.one (.d (.sl false 98 3 (List.map Env.c98 (a))))),(8,.one (.d (.v (.int .i64 ((a.length:Int)))))),(9,.one (.d (.v (.int .i64 ((j:Int)))))),(20,.one (.d (.v (.bool (!(Env.leq (a.getD j default) (b.getD j default)))))))] []) [⟨[6],some 14,[[6]],[]⟩,⟨[1],some 15,[],[]⟩,⟨[5],some 16,[],[]⟩,⟨[15,16],some 17,[],[]⟩,⟨[17],some 18,[],[]⟩,⟨[14,18],some 19,[],[]⟩,⟨[19],some 20,[],[]⟩] (by kernel_rfl) (fun k7=>?_) ?_
   ·skip
    refine .load (.no Y) Y t98 Y Y (.ptr _ _ _ _ _ Y) Y Y Y Y<|.move (.no Y) Y Y Y Y<|.move (.no Y) Y Y Y Y<|.indexAddr (.no Y) Y (j) t60 Y t98 Y Y Y (.d _ _) Y Y Y (map_get (by omega)) Y Y<|.load (.no Y) Y t98 Y Y (.d _) Y Y Y Y<|.call (.no Y) Y [] [] (c_leq (a.getD j default) (b.getD j default) (by first | exact hf j (by omega) | (have h8:=hx _ (getD_mem (j:=j) (by omega)); have h9:=hy _ (getD_mem (j:=j) (by omega)); omega))) Y Y Y Y Y (.dd (.dd (.dd (.dd (.dd (.dd .nil)))))) Y Y (fun h=>absurd Y h) (.own [19,0] .nil) (.nil) Y Y Y (by simp) Y Y Y<|.un (.no Y) Y Y Y Y Y ?_
    exact .fin () (.of (.r Y) .nil)
   intro _
   refine .cond (t:=!(Env.leq (a.getD j default) (b.getD j default))) Y (fun c1=>?_) (fun c1=>?_)
   ·have c1:=(nT id) c1
    refine .seq<|.rs fun k8=>.as Y<|.z<|.ret ?_
    exact fin0 (.inr Y) (.one (svB (show (false)=(tabLeq a b) by (unfold tabLeq; rw [allTo_fail (j:=j) (by omega) c1]))) .nil) (.dd .nil) Y
   ·have c1:=(nF id) c1
    refine .skip<|.rs fun k10=>.bi Y<|.mv Y<|.z ?_
    exact .here (j+1) (.of (.cons Y (.cons Y (.cons Y (.cons (svI (show (IntKind.wrap .i64 ((j:Int)+1))=(((j+1):Int)) by first | rfl | omega | exact wrap_le (by omega) (by omega) | (rw [wrap_le (by omega) (by omega)]; omega))) .nil)))) .nil) ⟨(show (j+1)≤a.length∧allTo (j+1) (fun i=>Env.leq (a.getD i default) (b.getD i default))=true by exact ⟨by omega,allTo_step hI.2 c1⟩),(show a.length - (j+1) < a.length - j by omega)⟩
  ·have c0:=of_decide_eq_false c0
   refine .exit<|.seq<|.rs fun k11=>.as Y<|.z<|.ret ?_
   exact fin0 (.inr Y) (.one (svB (show (true)=(tabLeq a b) by (unfold tabLeq; exact (allTo_le (by omega) hI.2).symm))) .nil) (.dd .nil) Y
theorem c_l8Size (d:Decl):Trip Tryz.prog 125 [(true,3)] (Decl.c33 d) [(false,1)] [.v (.int .i64 (leavesOf d))] []:=by
 refine Trip.of Tryz.func125 (by decide) (c:=_) Y Y (Nat.le_of_ble_eq_true Y) Y (AftOk.nil _)<|.sla (t:=0) 0 Y Y fun hs1l=>.sla (t:=0) 1 Y Y fun hs2l=>.sla (t:=0) 2 Y Y fun hs3l=>.seq<|.rs fun k4=>.g (fun _ τ=>⟨_,.box (.no Y) Y Y Y Y Y τ⟩)<|.as Y<|.z ?_
 refine .seq<|.rs fun k5=>.fp t33 t22 Y<|.ld t22 Y (.ptr _ _ _ _ _ Y) Y<|.g (fun _ τ=>⟨_,.len (.no Y) Y (z:=(d.flags.length:Int)) t22 Y Y Y (.d _ _) (map_len _ _) Y τ⟩)<|.g (fun _ τ=>⟨_,.conv (.no Y) Y t3 t100 Y Y Y Y (wrap_u64 (by omega) (by omega)) Y τ⟩)<|.g (fun _ τ=>⟨_,.shl (.no Y) Y Y Y Y (by omega) Y Y τ⟩)<|.as Y<|.z ?_
 refine .ret ?_
 exact fin0 (.inr Y) (.one (svI (show (IntKind.wrap .i64 (1 * 2 ^ (min ((d.flags.length:Int)).toNat (IntKind.bits .i64))))=(leavesOf d) by rfl)) .nil) (.dd .nil) Y
theorem c_leaves (d:Decl):Trip Tryz.prog 197 [(true,3)] (Decl.c33 d) [(false,1)] [.v (.int .i64 (leavesOf d))] []:=by
 refine Trip.of Tryz.func197 (by decide) (c:=_) Y Y (Nat.le_of_ble_eq_true Y) Y (AftOk.nil _)<|.sla (t:=0) 0 Y Y fun hs1l=>.sla (t:=0) 1 Y Y fun hs2l=>.sla (t:=0) 2 Y Y fun hs3l=>.seq<|.rs fun k4=>.g (fun _ τ=>⟨_,.box (.no Y) Y Y Y Y Y τ⟩)<|.as Y<|.z ?_
 refine .seq<|.rs fun k5=>.fp t33 t22 Y<|.ld t22 Y (.ptr _ _ _ _ _ Y) Y<|.g (fun _ τ=>⟨_,.len (.no Y) Y (z:=(d.flags.length:Int)) t22 Y Y Y (.d _ _) (map_len _ _) Y τ⟩)<|.g (fun _ τ=>⟨_,.shl (.no Y) Y Y Y Y (by omega) Y Y τ⟩)<|.as Y<|.z<|.ret ?_
 exact fin0 (.inr Y) (.one (svI (show (IntKind.wrap .i64 (1 * 2 ^ (min ((d.flags.length:Int)).toNat (IntKind.bits .i64))))=(leavesOf d) by rfl)) .nil) (.dd .nil) Y
theorem c_sizeE (l:List Env):Trip Tryz.prog 196 [(false,1)] ([.sl false 98 3 (List.map Env.c98 (l))]) [(false,1)] [.v (.int .i64 ((l.length:Int)))] []:=by
 refine Trip.of Tryz.func196 (by decide) (c:=_) Y Y (Nat.le_of_ble_eq_true Y) Y (AftOk.nil _)<|.sl (t:=0) Y fun hs1l=>.seq<|.rs fun k2=>.as Y<|.z<|.seq<|.rs fun k3=>.mv Y ?_
 refine .g (fun _ τ=>⟨_,.len (.no Y) Y (z:=(l.length:Int)) t60 Y Y Y (.d _ _) (map_len _ _) Y τ⟩)<|.as Y<|.z<|.ret ?_
 exact fin0 (.inr Y) (.one Y .nil) (.dd .nil) Y
theorem c_IndexFuncE (l:List Env) (F_p:FuncId) (first_p:List (Bool × List D)) (caps_p:List D) (p:Env→Bool) (h_p:∀ (x0:Env),FnTrip Tryz.prog F_p first_p caps_p [(true,3)] (Env.c98 x0) [(false,1)] [.v (.bool (p x0))]):Trip Tryz.prog 208 [(false,1),(false,1)] ([.sl false 98 3 (List.map Env.c98 (l))]++[.fn F_p first_p caps_p]) [(false,1)] [.v (.int .i64 (idx p l))] []:=by
 refine Trip.of Tryz.func208 (by decide) (c:=_) Y Y (Nat.le_of_ble_eq_true Y) Y (AftOk.nil _)<|.sl (t:=0) Y fun hs1l=>.seq<|.rs fun k2=>.as Y<|.z<|.seq<|.seq<|.rs fun k3=>?_
 refine .mv Y<|.g (fun _ τ=>⟨_,.len (.no Y) Y (z:=(l.length:Int)) t60 Y Y Y (.d _ _) (map_len _ _) Y τ⟩)<|.mv Y<|.z<|.block ?_
 refine .loop (X:=Nat) (fun ζ=>.of [(0,.one (.d (.sl false 98 3 (List.map Env.c98 (l))))),(1,.one (.d (.fn F_p first_p caps_p))),(7,.one (.d (.v (.int .i64 ((l.length:Int)))))),(8,.one (.d (.v (.int .i64 ((ζ:Int))))))] []) (fun ζ=>ζ≤l.length∧allTo ζ (fun i=>!p (l.getD i default))=true) (fun ζ=>l.length - ζ) ?_ ?_
 ·skip
  exact .here 0 (.of (.cons Y (.cons Y (.cons Y (.cons (svI (show (0)=((0:Int)) by first | rfl | omega | exact wrap_le (by omega) (by omega) | (rw [wrap_le (by omega) (by omega)]; omega))) .nil)))) .nil) (show 0≤l.length∧allTo 0 (fun i=>!p (l.getD i default))=true by exact ⟨by omega,rfl⟩)
 ·rintro j hI
  have hI:j≤l.length∧allTo j (fun i=>!p (l.getD i default))=true:=hI
  refine .seq<|.rs fun k4=>.bi Y<|.z<|.seq ?_
  refine .cond (t:=decide ((j:Int) < (l.length:Int))) Y (fun c0=>?_) (fun c0=>?_)
  ·have c0:=of_decide_eq_true c0
   refine .skip<|.seq<|.block<|.seq<|.rs fun k5=>.mv Y<|.as Y<|.z<|.seq ?_
   refine .rs fun k6=>.mv Y<|.mv Y<|.mv Y<|.g (fun _ τ=>⟨_,.indexAddr (.no Y) Y (j) t60 Y t98 Y Y Y (.d _ _) Y Y Y (map_get (by omega)) Y Y τ⟩)<|.lda t98 Y (.d _) Y<|.g (fun _ τ=>⟨_,.callF (.no Y) Y (ds:=[.v (.bool ((l.getD j default).live)),.sl false 119 2 (List.map Iv.c ((l.getD j default).ints)),.sl false 119 2 (List.map Iv.c ((l.getD j default).arrs))]) (h_p (l.getD j default)) Y Y Y Y (.own [16,0] .nil) Y Y Y Y Y Y τ⟩)<|.z ?_
   refine .cond (t:=p (l.getD j default)) Y (fun c1=>?_) (fun c1=>?_)
   ·have c1:=c1
    refine .seq<|.rs fun k7=>.mv Y<|.as Y<|.z<|.ret ?_
    exact fin0 (.inr Y) (.one (svI (show ((j:Int))=(idx p l) by exact (idx_found (j:=j) (by omega) hI.2 (by simpa using c1)).symm)) .nil) (.dd .nil) Y
   ·have c1:=c1
    refine .skip<|.rs fun k9=>.bi Y<|.mv Y<|.z ?_
    exact .here (j+1) (.of (.cons Y (.cons Y (.cons Y (.cons (svI (show (IntKind.wrap .i64 ((j:Int)+1))=(((j+1):Int)) by first | rfl | omega | exact wrap_le (by omega) (by omega) | (rw [wrap_le (by omega) (by omega)]; omega))) .nil)))) .nil) ⟨(show (j+1)≤l.length∧allTo (j+1) (fun i=>!p (l.getD i default))=true by exact ⟨by omega,allTo_step hI.2 (by simpa using c1)⟩),(show l.length - (j+1) < l.length - j by omega)⟩
  ·have c0:=of_decide_eq_false c0
   refine .exit<|.seq<|.rs fun k10=>.as Y<|.z<|.ret ?_
   exact fin0 (.inr Y) (.one (svI (show (-1)=(idx p l) by exact (idx_none (by omega) hI.2).symm)) .nil) (.dd .nil) Y
theorem c_ContainsFuncE (l:List Env) (F_p:FuncId) (first_p:List (Bool × List D)) (caps_p:List D) (p:Env→Bool) (h_p:∀ (x0:Env),FnTrip Tryz.prog F_p first_p caps_p [(true,3)] (Env.c98 x0) [(false,1)] [.v (.bool (p x0))]):Trip Tryz.prog 179 [(false,1),(false,1)] ([.sl false 98 3 (List.map Env.c98 (l))]++[.fn F_p first_p caps_p]) [(false,1)] [.v (.bool (l.any p))] []:=by
 refine Trip.of Tryz.func179 (by decide) (c:=_) Y Y (Nat.le_of_ble_eq_true Y) Y (AftOk.nil _)<|.sl (t:=0) Y fun hs1l=>.seq<|.rs fun k2=>.as Y<|.z<|.seq<|.rs fun k3=>.mv Y ?_
 refine .mv Y<|.c0 (c_IndexFuncE l F_p first_p caps_p p h_p) Y (.dd (.dd .nil)) (.own [7,0] .nil) Y<|.bi Y<|.as Y<|.z<|.ret ?_
 exact fin0 (.inr Y) (.one (svB (show (decide ((idx p l)≥0))=(l.any p) by exact idx_any _ _)) .nil) (.dd .nil) Y
theorem c_areAll1E (x:Env) (F_p:FuncId) (first_p:List (Bool × List D)) (caps_p:List D) (p:Env→Bool) (h_p:∀ (x0:Env),FnTrip Tryz.prog F_p first_p caps_p [(true,3)] (Env.c98 x0) [(false,1)] [.v (.bool (p x0))]):Trip Tryz.prog 218 [(true,3),(false,1)] (Env.c98 x++[.pt false [.fn F_p first_p caps_p]]) [(false,1)] [.v (.bool (!p x))] []:=by
 refine Trip.of Tryz.func218 (by decide) (c:=_) Y Y (Nat.le_of_ble_eq_true Y) Y (AftOk.nil _)<|.sla (t:=0) 1 Y Y fun hs1l=>.sla (t:=0) 2 Y Y fun hs2l=>.seq<|.rs fun k3=>.g (fun _ τ=>⟨_,.box (.no Y) Y Y Y Y Y τ⟩)<|.as Y<|.z<|.seq ?_
 refine .rs fun k4=>.ld t200 Y (.d _) Y<|.lda t98 Y (.ptr _ _ _ _ _ Y) Y<|.g (fun _ τ=>⟨_,.callF (.no Y) Y (ds:=[.v (.bool (x.live)),.sl false 119 2 (List.map Iv.c (x.ints)),.sl false 119 2 (List.map Iv.c (x.arrs))]) (h_p x) Y Y Y Y (.own [6,0] .nil) Y Y Y Y Y Y τ⟩)<|.un Y<|.as Y<|.z<|.ret ?_
 exact fin0 (.inr Y) (.one (svB (show (!(p x))=(!p x) by rfl)) .nil) (.dd .nil) Y
theorem c_areAllE (l:List Env) (F_p:FuncId) (first_p:List (Bool × List D)) (caps_p:List D) (p:Env→Bool) (h_p:∀ (x0:Env),FnTrip Tryz.prog F_p first_p caps_p [(true,3)] (Env.c98 x0) [(false,1)] [.v (.bool (p x0))]):Trip Tryz.prog 198 [(false,1),(false,1)] ([.sl false 98 3 (List.map Env.c98 (l))]++[.fn F_p first_p caps_p]) [(false,1)] [.v (.bool (l.all p))] []:=by
 refine Trip.of Tryz.func198 (by decide) (c:=_) Y Y (Nat.le_of_ble_eq_true Y) Y (AftOk.nil _)<|.sl (t:=0) Y fun hs1l=>.seq<|.rs fun k2=>.g (fun _ τ=>⟨_,.box (.no Y) Y Y Y Y Y τ⟩)<|.as Y<|.z<|.seq<|.rs fun k3=>?_
 refine .mv Y<|.g (fun _ τ=>⟨_,.makeFunc (.no Y) Y Y Y Y Y τ⟩)<|.g (fun _ τ=>⟨_,.call (.no Y) Y [[3]] [([3],(k2,k2,.box [.d (.fn F_p first_p caps_p)]))] (c_ContainsFuncE l 218 [] [.pt false [.fn F_p first_p caps_p]] (fun x0=>!p x0) (fun x0=>c_areAll1E x0 F_p first_p caps_p p h_p)) Y Y Y Y Y (.dd (.cons (Reads.clo0 (.cons (Reads.ptr0 (.head _) (.head _) (.cons (Reads.d _) .nil)) .nil)).gives .nil)) Y Y (fun _=>(ownCons (Owned.v _) ownNil)) (.own [7,0] .nil) (.nil) Y Y Y (AllH.get (.r Y)) Y Y Y τ⟩)<|.un Y<|.as Y<|.z<|.ret ?_
 exact fin0 (.inr Y) (.one (svB (show (!(l.any (fun x0=>!p x0)))=(l.all p) by exact not_any _ _)) .nil) (.dd .nil) Y
end Go.Proofs

namespace Go.Proofs
open Go Go.Proofs Go.Ev

theorem c_l8Join (a:List Env) (b:List Env) (hl:a.length=b.length∧a.length≤1048576) (hf:∀ i,i < a.length→(a.getD i default).live=true→(b.getD i default).live=true→(a.getD i default).ints.length=(b.getD i default).ints.length∧(a.getD i default).arrs.length=(b.getD i default).arrs.length) (hx:∀ x∈a,x.ints.length≤1048576∧x.arrs.length≤1048576) (hy:∀ x∈b,x.ints.length≤1048576∧x.arrs.length≤1048576):Trip Tryz.prog 141 [(false,1),(false,1)] ([.sl false 98 3 (List.map Env.c98 (a))]++[.sl false 98 3 (List.map Env.c98 (b))]) [(false,1)] [.sl true 98 3 (List.map Env.co98 (zip2 Env.join a b))] []:=by
 refine Trip.of Tryz.func141 (by decide) (c:=_) Y Y (Nat.le_of_ble_eq_true Y) Y (AftOk.nil _)<|.sl (t:=0) Y fun hs1l=>.sl (t:=1) Y fun hs2l=>.seq<|.rs fun k3=>.as Y<|.z<|.seq<|.rs fun k4=>?_
 refine .g (fun _ τ=>⟨_,.buildSlice (.no Y) Y (els:=[]) t60 Y z98 Y Y Y Y Y Y Y Y (by simp [i98]) .nil Y Y Y τ⟩)<|.as Y<|.z<|.seq<|.seq<|.rs fun k5=>.as Y<|.z<|.block ?_
 refine .loop (X:=Nat × Nat × Nat) (fun ζ=>.of [(0,.one (.d (.sl false 98 3 (List.map Env.c98 (a))))),(1,.one (.d (.sl false 98 3 (List.map Env.c98 (b))))),(5,.one (.ref [7] (ζ.2.1))),(6,.one (.d (.v (.int .i64 ((ζ.1:Int))))))] [([7],(ζ.2.1,ζ.2.2,.row 98 3 (List.map Env.co98 (zip2To Env.join a b ζ.1))))]) (fun ζ=>ζ.1≤a.length) (fun ζ=>a.length - ζ.1) ?_ ?_
 ·skip
  exact .here (0,k4,k4) (.of (.cons Y (.cons Y (.cons Y (.cons (svI (show (0)=((0:Int)) by first | rfl | omega | exact wrap_le (by omega) (by omega) | (rw [wrap_le (by omega) (by omega)]; omega))) .nil)))) (.cons (rowE (show []=List.map Env.co98 (zip2To Env.join a b 0) by first | rfl | exact congrArg _ (zip2To_step _ _ _ _))) .nil)) (show 0≤a.length by omega)
 ·rintro ⟨j,q6,q7⟩ hI
  have hI:j≤a.length:=hI
  dsimp only
  refine .seq<|.seq<|.rs fun k8=>.mv Y<|.mv Y<|.g (fun _ τ=>⟨_,.len (.no Y) Y (z:=(a.length:Int)) t60 Y Y Y (.d _ _) (map_len _ _) Y τ⟩)<|.bi Y<|.z ?_
  refine .cond (t:=decide ((j:Int) < (a.length:Int))) Y (fun c0=>?_) (fun c0=>?_)
  ·have c0:=of_decide_eq_true c0
   refine .skip<|.seq<|.block ?_
   refine .regD (X:=Nat) (by kernel_rfl) (fun ζ=>.of [(0,.one (.d (.sl false 98 3 (List.map Env.c98 (a))))),(1,.one (.d (.sl false 98 3 (List.map Env.c98 (b))))),(5,.one (.ref [7] (ζ))),(6,.one (.d (.v (.int .i64 ((j:Int))))))] [([7],(ζ,ζ,.row 98 3 (List.map Env.co98 (zip2To Env.join a b j++[(Env.join (a.getD j default) (b.getD j default))]))))]) [⟨[5],some 14,[],[]⟩,⟨[0],some 15,[],[]⟩,⟨[6],some 16,[],[]⟩,⟨[15,16],some 17,[],[]⟩,⟨[17],some 18,[],[]⟩,⟨[1],some 19,[],[]⟩,⟨[6],some 20,[],[]⟩,⟨[19,20],some 21,[],[]⟩,⟨[21],some 22,[],[]⟩,⟨[18,22],some 23,[],[[23,1],[23,2]]⟩,⟨[23],some 24,[[23,1],[23,2]],[[23,1],[23,2],[24]]⟩,⟨[14,24],some 25,[[7],[24]],[[24],[7]]⟩,⟨[25],some 5,[],[]⟩] (by kernel_rfl) (fun k9=>?_) ?_
   ·skip
    refine .move (.no Y) Y Y Y Y<|.move (.no Y) Y Y Y Y<|.move (.no Y) Y Y Y Y<|.indexAddr (.no Y) Y (j) t60 Y t98 Y Y Y (.d _ _) Y Y Y (map_get (by omega)) Y Y<|.load (.no Y) Y t98 Y Y (.d _) Y Y Y Y<|.move (.no Y) Y Y Y Y<|.move (.no Y) Y Y Y Y<|.indexAddr (.no Y) Y (j) t60 Y t98 Y Y Y (.d _ _) Y Y Y (map_get (by omega)) Y Y<|.load (.no Y) Y t98 Y Y (.d _) Y Y Y Y ?_
    refine .call (.no Y) Y [] [] (c_l6Join (a.getD j default) (b.getD j default) (by first | exact hf j (by omega) | omega | (have h8:=hx _ (getD_mem (j:=j) (by omega)); have h9:=hy _ (getD_mem (j:=j) (by omega)); omega)) (by first | exact hf j (by omega) | omega | (have h8:=hx _ (getD_mem (j:=j) (by omega)); have h9:=hy _ (getD_mem (j:=j) (by omega)); omega))) Y Y Y Y Y (.dd (.dd (.dd (.dd (.dd (.dd .nil)))))) Y Y (fun h=>absurd Y h) (.own [23,0] (.own [23,1] (.own [23,2] .nil))) (.nil) Y Y Y (by simp) Y Y Y ?_
    refine .buildSlice (.no Y) Y (els:=[[.v (.bool ((Env.join (a.getD j default) (b.getD j default)).live)),.sl true 119 2 (List.map Iv.c ((Env.join (a.getD j default) (b.getD j default)).ints)),.sl true 119 2 (List.map Iv.c ((Env.join (a.getD j default) (b.getD j default)).arrs))]]) t60 Y z98 Y Y Y Y Y Y Y Y (by simp [i98]) (.cons _ _ _ _ _ _ (.d _) (.cons _ _ _ _ _ _ (.ref _ _ _ _ _ _ Y) (.cons _ _ _ _ _ _ (.ref _ _ _ _ _ _ Y) .nil))) Y Y Y<|.append (.no Y) Y (l3:=List.map Env.co98 (zip2To Env.join a b j++[(Env.join (a.getD j default) (b.getD j default))])) t60 Y z98 Y Y Y Y Y Y Y Y (.ref _ _ _ _ Y) (.take _ _ _ _ _ Y) Y (by simp only [List.length_map,zip2To_len,i98]; simp; omega) (map_snoc _ _ _) Y Y<|.assign (.no Y) Y Y Y Y ?_
    exact .fin (k9+1+1+1+1+1+1+1+1+1+1+1) (.of (.r Y) (.r Y))
   intro g10
   refine .rs fun k11=>.mv Y<|.bi Y<|.as Y<|.z ?_
   exact .here ((j+1),g10,g10) (.of (.cons Y (.cons Y (.cons Y (.cons (svI (show (IntKind.wrap .i64 ((j:Int)+1))=(((j+1):Int)) by first | rfl | omega | exact wrap_le (by omega) (by omega) | (rw [wrap_le (by omega) (by omega)]; omega))) .nil)))) (.cons (rowE (show List.map Env.co98 (zip2To Env.join a b j++[(Env.join (a.getD j default) (b.getD j default))])=List.map Env.co98 (zip2To Env.join a b (j+1)) by first | rfl | exact congrArg _ (zip2To_step _ _ _ _))) .nil)) ⟨(show (j+1)≤a.length by omega),(show a.length - (j+1) < a.length - j by omega)⟩
  ·have c0:=of_decide_eq_false c0
   refine .exit<|.seq<|.rs fun k12=>.mv Y<|.as Y<|.z<|.ret ?_
   have e13:(zip2To Env.join a b j)=(zip2 Env.join a b):=by exact zip2To_all _ hI (by omega)
   exact fin1 (.inr Y) [] [([7],(q6,q7,.row 98 3 (List.map Env.co98 (zip2 Env.join a b))))] (.one Y .nil) (.cons (.ref (.head _)) .nil) Y Y (.cons (rowE (congrArg (List.map Env.co98) e13)) .nil)
theorem c_l8Widen (a:List Env) (b:List Env) (l:List Int) (hl:a.length=b.length∧a.length≤1048576) (hf:∀ i,i < a.length→(a.getD i default).live=true→(b.getD i default).live=true→(a.getD i default).ints.length=(b.getD i default).ints.length∧(a.getD i default).arrs.length=(b.getD i default).arrs.length) (hx:∀ x∈a,x.ints.length≤1048576∧x.arrs.length≤1048576) (hy:∀ x∈b,x.ints.length≤1048576∧x.arrs.length≤1048576):Trip Tryz.prog 142 [(false,1),(false,1),(false,1)] ([.sl false 98 3 (List.map Env.c98 (a))]++[.sl false 98 3 (List.map Env.c98 (b))]++[.sl false 2 1 (List.map i64c (l))]) [(false,1)] [.sl true 98 3 (List.map Env.co98 (zip2 (Env.joinW (fun x y=>Iv.widenOk l x y)) a b))] []:=by
 refine Trip.of Tryz.func142 (by decide) (c:=_) Y Y (Nat.le_of_ble_eq_true Y) Y (AftOk.nil _)<|.sl (t:=0) Y fun hs1l=>.sl (t:=1) Y fun hs2l=>.sl (t:=2) Y fun hs3l=>.seq<|.rs fun k4=>.as Y<|.z<|.seq ?_
 refine .rs fun k5=>.g (fun _ τ=>⟨_,.buildSlice (.no Y) Y (els:=[]) t60 Y z98 Y Y Y Y Y Y Y Y (by simp [i98]) .nil Y Y Y τ⟩)<|.as Y<|.z<|.seq<|.seq<|.rs fun k6=>.as Y<|.z ?_
 refine .block ?_
 refine .loop (X:=Nat × Nat × Nat) (fun ζ=>.of [(0,.one (.d (.sl false 98 3 (List.map Env.c98 (a))))),(1,.one (.d (.sl false 98 3 (List.map Env.c98 (b))))),(2,.one (.d (.sl false 2 1 (List.map i64c (l))))),(7,.one (.ref [9] (ζ.2.1))),(8,.one (.d (.v (.int .i64 ((ζ.1:Int))))))] [([9],(ζ.2.1,ζ.2.2,.row 98 3 (List.map Env.co98 (zip2To (Env.joinW (fun x y=>Iv.widenOk l x y)) a b ζ.1))))]) (fun ζ=>ζ.1≤a.length) (fun ζ=>a.length - ζ.1) ?_ ?_
 ·skip
  exact .here (0,k5,k5) (.of (.cons Y (.cons Y (.cons Y (.cons Y (.cons (svI (show (0)=((0:Int)) by first | rfl | omega | exact wrap_le (by omega) (by omega) | (rw [wrap_le (by omega) (by omega)]; omega))) .nil))))) (.cons (rowE (show []=List.map Env.co98 (zip2To (Env.joinW (fun x y=>Iv.widenOk l x y)) a b 0) by first | rfl | exact congrArg _ (zip2To_step _ _ _ _))) .nil)) (show 0≤a.length by omega)
 ·rintro ⟨j,q7,q8⟩ hI
  have hI:j≤a.length:=hI
  dsimp only
  refine .seq<|.seq<|.rs fun k9=>.mv Y<|.mv Y<|.g (fun _ τ=>⟨_,.len (.no Y) Y (z:=(a.length:Int)) t60 Y Y Y (.d _ _) (map_len _ _) Y τ⟩)<|.bi Y<|.z ?_
  refine .cond (t:=decide ((j:Int) < (a.length:Int))) Y (fun c0=>?_) (fun c0=>?_)
  ·have c0:=of_decide_eq_true c0
   refine .skip<|.seq<|.block ?_
   refine .regD (X:=Nat) (by kernel_rfl) (fun ζ=>.of [(0,.one (.d (.sl false 98 3 (List.map Env.c98 (a))))),(1,.one (.d (.sl false 98 3 (List.map Env.c98 (b))))),(2,.one (.d (.sl false 2 1 (List.map i64c (l))))),(7,.one (.ref [9] (ζ))),(8,.one (.d (.v (.int .i64 ((j:Int))))))] [([9],(ζ,ζ,.row 98 3 (List.map Env.co98 (zip2To (Env.joinW (fun x y=>Iv.widenOk l x y)) a b j++[(Env.joinW (fun x y=>Iv.widenOk l x y) (a.getD j default) (b.getD j default))]))))]) [⟨[7],some 16,[],[]⟩,⟨[0],some 17,[],[]⟩,⟨[8],some 18,[],[]⟩,⟨[17,18],some 19,[],[]⟩,⟨[19],some 20,[],[]⟩,⟨[1],some 21,[],[]⟩,⟨[8],some 22,[],[]⟩,⟨[21,22],some 23,[],[]⟩,⟨[23],some 24,[],[]⟩,⟨[2],some 25,[],[]⟩,⟨[20,24,25],some 26,[],[[26,1],[26,2]]⟩,⟨[26],some 27,[[26,1],[26,2]],[[26,1],[26,2],[27]]⟩,⟨[16,27],some 28,[[9],[27]],[[27],[9]]⟩,⟨[28],some 7,[],[]⟩] (by kernel_rfl) (fun k10=>?_) ?_
   ·skip
    refine .move (.no Y) Y Y Y Y<|.move (.no Y) Y Y Y Y<|.move (.no Y) Y Y Y Y<|.indexAddr (.no Y) Y (j) t60 Y t98 Y Y Y (.d _ _) Y Y Y (map_get (by omega)) Y Y<|.load (.no Y) Y t98 Y Y (.d _) Y Y Y Y<|.move (.no Y) Y Y Y Y<|.move (.no Y) Y Y Y Y<|.indexAddr (.no Y) Y (j) t60 Y t98 Y Y Y (.d _ _) Y Y Y (map_get (by omega)) Y Y<|.load (.no Y) Y t98 Y Y (.d _) Y Y Y Y ?_
    refine .move (.no Y) Y Y Y Y<|.call (.no Y) Y [] [] (c_l6Widen (a.getD j default) (b.getD j default) l (by first | exact hf j (by omega) | omega | (have h8:=hx _ (getD_mem (j:=j) (by omega)); have h9:=hy _ (getD_mem (j:=j) (by omega)); omega)) (by first | exact hf j (by omega) | omega | (have h8:=hx _ (getD_mem (j:=j) (by omega)); have h9:=hy _ (getD_mem (j:=j) (by omega)); omega))) Y Y Y Y Y (.dd (.dd (.dd (.dd (.dd (.dd (.dd .nil))))))) Y Y (fun h=>absurd Y h) (.own [26,0] (.own [26,1] (.own [26,2] .nil))) (.nil) Y Y Y (by simp) Y Y Y ?_
    refine .buildSlice (.no Y) Y (els:=[[.v (.bool ((Env.joinW (fun x y=>Iv.widenOk l x y) (a.getD j default) (b.getD j default)).live)),.sl true 119 2 (List.map Iv.c ((Env.joinW (fun x y=>Iv.widenOk l x y) (a.getD j default) (b.getD j default)).ints)),.sl true 119 2 (List.map Iv.c ((Env.joinW (fun x y=>Iv.widenOk l x y) (a.getD j default) (b.getD j default)).arrs))]]) t60 Y z98 Y Y Y Y Y Y Y Y (by simp [i98]) (.cons _ _ _ _ _ _ (.d _) (.cons _ _ _ _ _ _ (.ref _ _ _ _ _ _ Y) (.cons _ _ _ _ _ _ (.ref _ _ _ _ _ _ Y) .nil))) Y Y Y ?_
    refine .append (.no Y) Y (l3:=List.map Env.co98 (zip2To (Env.joinW (fun x y=>Iv.widenOk l x y)) a b j++[(Env.joinW (fun x y=>Iv.widenOk l x y) (a.getD j default) (b.getD j default))])) t60 Y z98 Y Y Y Y Y Y Y Y (.ref _ _ _ _ Y) (.take _ _ _ _ _ Y) Y (by simp only [List.length_map,zip2To_len,i98]; simp; omega) (map_snoc _ _ _) Y Y<|.assign (.no Y) Y Y Y Y ?_
    exact .fin (k10+1+1+1+1+1+1+1+1+1+1+1+1) (.of (.r Y) (.r Y))
   intro g11
   refine .rs fun k12=>.mv Y<|.bi Y<|.as Y<|.z ?_
   exact .here ((j+1),g11,g11) (.of (.cons Y (.cons Y (.cons Y (.cons Y (.cons (svI (show (IntKind.wrap .i64 ((j:Int)+1))=(((j+1):Int)) by first | rfl | omega | exact wrap_le (by omega) (by omega) | (rw [wrap_le (by omega) (by omega)]; omega))) .nil))))) (.cons (rowE (show List.map Env.co98 (zip2To (Env.joinW (fun x y=>Iv.widenOk l x y)) a b j++[(Env.joinW (fun x y=>Iv.widenOk l x y) (a.getD j default) (b.getD j default))])=List.map Env.co98 (zip2To (Env.joinW (fun x y=>Iv.widenOk l x y)) a b (j+1)) by first | rfl | exact congrArg _ (zip2To_step _ _ _ _))) .nil)) ⟨(show (j+1)≤a.length by omega),(show a.length - (j+1) < a.length - j by omega)⟩
  ·have c0:=of_decide_eq_false c0
   refine .exit<|.seq<|.rs fun k13=>.mv Y<|.as Y<|.z<|.ret ?_
   have e14:(zip2To (Env.joinW (fun x y=>Iv.widenOk l x y)) a b j)=(zip2 (Env.joinW (fun x y=>Iv.widenOk l x y)) a b):=by exact zip2To_all _ hI (by omega)
   exact fin1 (.inr Y) [] [([9],(q7,q8,.row 98 3 (List.map Env.co98 (zip2 (Env.joinW (fun x y=>Iv.widenOk l x y)) a b))))] (.one Y .nil) (.cons (.ref (.head _)) .nil) Y Y (.cons (rowE (congrArg (List.map Env.co98) e14)) .nil)
theorem c_tableWith (a:List Env) (b:List Env) (F_f:FuncId) (first_f:List (Bool × List D)) (caps_f:List D) (f:Iv→Iv→Iv) (h_f:∀ (x0:Iv) (x1:Iv),FnTrip Tryz.prog F_f first_f caps_f [(true,2),(true,2)] (Iv.c x0++Iv.c x1) [(true,2)] [.v (.int .i64 ((f x0 x1).lo)),.v (.int .i64 ((f x0 x1).hi))]) (hl:a.length=b.length∧a.length≤1048576) (hf:∀ i,i < a.length→(a.getD i default).live=true→(b.getD i default).live=true→(a.getD i default).ints.length=(b.getD i default).ints.length∧(a.getD i default).arrs.length=(b.getD i default).arrs.length) (hx:∀ x∈a,x.ints.length≤1048576∧x.arrs.length≤1048576) (hy:∀ x∈b,x.ints.length≤1048576∧x.arrs.length≤1048576):Trip Tryz.prog 97 [(false,1),(false,1),(false,1)] ([.sl false 98 3 (List.map Env.c98 (a))]++[.sl false 98 3 (List.map Env.c98 (b))]++[.fn F_f first_f caps_f]) [(false,1)] [.sl true 98 3 (List.map Env.co98 (zip2 (Env.joinW f) a b))] []:=by
 refine Trip.of Tryz.func97 (by decide) (c:=_) Y Y (Nat.le_of_ble_eq_true Y) Y (AftOk.nil _)<|.sl (t:=0) Y fun hs1l=>.sl (t:=1) Y fun hs2l=>.seq<|.rs fun k3=>.as Y<|.z<|.seq<|.rs fun k4=>?_
 refine .as Y<|.z<|.seq<|.seq<|.rs fun k5=>.mv Y<|.g (fun _ τ=>⟨_,.len (.no Y) Y (z:=(a.length:Int)) t60 Y Y Y (.d _ _) (map_len _ _) Y τ⟩)<|.mv Y<|.z ?_
 refine .block ?_
 refine .loop (X:=Nat × Nat × Nat) (fun ζ=>.of [(1,.one (.d (.sl false 98 3 (List.map Env.c98 (b))))),(2,.one (.d (.fn F_f first_f caps_f))),(7,.one (.ref [26] (ζ.2.1))),(10,.one (.d (.sl false 98 3 (List.map Env.c98 (a))))),(11,.one (.d (.v (.int .i64 ((a.length:Int)))))),(12,.one (.d (.v (.int .i64 ((ζ.1:Int))))))] [([26],(ζ.2.1,ζ.2.2,.row 98 3 (List.map Env.co98 (zip2To (Env.joinW f) a b ζ.1))))]) (fun ζ=>ζ.1≤a.length) (fun ζ=>a.length - ζ.1) ?_ ?_
 ·skip
  refine .nilRow 7 [26] 98 3 Y fun k8=>?_
  exact .here (0,k8,k8) (.of (.cons Y (.cons Y (.cons Y (.cons Y (.cons Y (.cons (svI (show (0)=((0:Int)) by first | rfl | omega | exact wrap_le (by omega) (by omega) | (rw [wrap_le (by omega) (by omega)]; omega))) .nil)))))) (.cons (rowE (show []=List.map Env.co98 (zip2To (Env.joinW f) a b 0) by first | rfl | exact congrArg _ (zip2To_step _ _ _ _))) .nil)) (show 0≤a.length by omega)
 ·rintro ⟨j,q6,q7⟩ hI
  have hI:j≤a.length:=hI
  dsimp only
  refine .seq<|.rs fun k9=>.bi Y<|.z<|.seq ?_
  refine .cond (t:=decide ((j:Int) < (a.length:Int))) Y (fun c0=>?_) (fun c0=>?_)
  ·have c0:=of_decide_eq_true c0
   refine .skip<|.seq<|.block<|.seq<|.rs fun k10=>.mv Y<|.g (fun _ τ=>⟨_,.indexAddr (.no Y) Y (j) t60 Y t98 Y Y Y (.d _ _) Y Y Y (map_get (by omega)) Y Y τ⟩)<|.lda t98 Y (.d _) Y<|.g (fun _ τ=>⟨_,.alloc (.no Y) Y z98 Y Y Y τ⟩) ?_
   refine .as Y<|.g (fun _ τ=>⟨_,.store (.no Y) Y t98 Y Y Y Y Y Y Y Y Y τ⟩)<|.z ?_
   refine .regD (X:=Nat) (by kernel_rfl) (fun ζ=>.of [(1,.one (.d (.sl false 98 3 (List.map Env.c98 (b))))),(2,.one (.d (.fn F_f first_f caps_f))),(7,.one (.ref [26] (ζ))),(10,.one (.d (.sl false 98 3 (List.map Env.c98 (a))))),(11,.one (.d (.v (.int .i64 ((a.length:Int)))))),(12,.one (.d (.v (.int .i64 ((j:Int))))))] [([26],(ζ,ζ,.row 98 3 (List.map Env.co98 (zip2To (Env.joinW f) a b j++[(Env.joinW f (a.getD j default) (b.getD j default))]))))]) [⟨[7],some 17,[],[]⟩,⟨[9],some 18,[[9]],[]⟩,⟨[1],some 19,[],[]⟩,⟨[8],some 20,[],[]⟩,⟨[19,20],some 21,[],[]⟩,⟨[21],some 22,[],[]⟩,⟨[2],some 23,[],[]⟩,⟨[18,22,23],some 24,[],[[24,1],[24,2]]⟩,⟨[24],some 25,[[24,1],[24,2]],[[24,1],[24,2],[25]]⟩,⟨[17,25],some 26,[[26],[25]],[[25],[26]]⟩,⟨[26],some 7,[],[]⟩] (by kernel_rfl) (fun k11=>?_) ?_
   ·skip
    refine .move (.no Y) Y Y Y Y<|.load (.no Y) Y t98 Y Y (.ptr _ _ _ _ _ Y) Y Y Y Y<|.move (.no Y) Y Y Y Y<|.move (.no Y) Y Y Y Y<|.indexAddr (.no Y) Y (j) t60 Y t98 Y Y Y (.d _ _) Y Y Y (map_get (by omega)) Y Y<|.load (.no Y) Y t98 Y Y (.d _) Y Y Y Y<|.move (.no Y) Y Y Y Y ?_
    refine .call (.no Y) Y [] [] (c_with (a.getD j default) (b.getD j default) F_f first_f caps_f f h_f (by first | exact hf j (by omega) | omega | (have h8:=hx _ (getD_mem (j:=j) (by omega)); have h9:=hy _ (getD_mem (j:=j) (by omega)); omega)) (by first | exact hf j (by omega) | omega | (have h8:=hx _ (getD_mem (j:=j) (by omega)); have h9:=hy _ (getD_mem (j:=j) (by omega)); omega))) Y Y Y Y Y (.dd (.dd (.dd (.dd (.dd (.dd (.dd .nil))))))) Y Y (fun h=>absurd Y h) (.own [24,0] (.own [24,1] (.own [24,2] .nil))) (.nil) Y Y Y (by simp) Y Y Y ?_
    refine .buildSlice (.no Y) Y (els:=[[.v (.bool ((Env.joinW f (a.getD j default) (b.getD j default)).live)),.sl true 119 2 (List.map Iv.c ((Env.joinW f (a.getD j default) (b.getD j default)).ints)),.sl true 119 2 (List.map Iv.c ((Env.joinW f (a.getD j default) (b.getD j default)).arrs))]]) t60 Y z98 Y Y Y Y Y Y Y Y (by simp [i98]) (.cons _ _ _ _ _ _ (.d _) (.cons _ _ _ _ _ _ (.ref _ _ _ _ _ _ Y) (.cons _ _ _ _ _ _ (.ref _ _ _ _ _ _ Y) .nil))) Y Y Y<|.append (.no Y) Y (l3:=List.map Env.co98 (zip2To (Env.joinW f) a b j++[(Env.joinW f (a.getD j default) (b.getD j default))])) t60 Y z98 Y Y Y Y Y Y Y Y (.ref _ _ _ _ Y) (.take _ _ _ _ _ Y) Y (by simp only [List.length_map,zip2To_len,i98]; simp; omega) (map_snoc _ _ _) Y Y<|.assign (.no Y) Y Y Y Y ?_
    exact .fin (k11+1+1+1+1+1+1+1+1+1) (.of (.r Y) (.r Y))
   intro g12
   refine .rs fun k13=>.bi Y<|.mv Y<|.z ?_
   exact .here ((j+1),g12,g12) (.of (.cons Y (.cons Y (.cons Y (.cons Y (.cons Y (.cons (svI (show (IntKind.wrap .i64 ((j:Int)+1))=(((j+1):Int)) by first | rfl | omega | exact wrap_le (by omega) (by omega) | (rw [wrap_le (by omega) (by omega)]; omega))) .nil)))))) (.cons (rowE (show List.map Env.co98 (zip2To (Env.joinW f) a b j++[(Env.joinW f (a.getD j default) (b.getD j default))])=List.map Env.co98 (zip2To (Env.joinW f) a b (j+1)) by first | rfl | exact congrArg _ (zip2To_step _ _ _ _))) .nil)) ⟨(show (j+1)≤a.length by omega),(show a.length - (j+1) < a.length - j by omega)⟩
  ·have c0:=of_decide_eq_false c0
   refine .exit<|.seq<|.rs fun k14=>.mv Y<|.as Y<|.z<|.ret ?_
   have e15:(zip2To (Env.joinW f) a b j)=(zip2 (Env.joinW f) a b):=by exact zip2To_all _ hI (by omega)
   exact fin1 (.inr Y) [] [([26],(q6,q7,.row 98 3 (List.map Env.co98 (zip2 (Env.joinW f) a b))))] (.one Y .nil) (.cons (.ref (.head _)) .nil) Y Y (.cons (rowE (congrArg (List.map Env.co98) e15)) .nil)
end Go.Proofs

namespace Go.Proofs
open Go Go.Proofs Go.Ev

theorem c_sTableOk (d:Decl) (t:List Env) (hs:∀ x∈Decl.names d,x.size≤9223372036854775807) (hd:d.vars.length≤1048576∧d.flags.length≤1048576∧d.arrays.length≤1048576) (hx:∀ x∈t,x.ints.length≤1048576∧x.arrs.length≤1048576):Trip Tryz.prog 75 [(true,3),(false,1)] (Decl.c33 d++[.sl false 98 3 (List.map Env.c98 (t))]) [(false,1)] [.v (.bool (Table.ok d t))] []:=by
 refine Trip.of Tryz.func75 (by decide) (c:=_) Y Y (Nat.le_of_ble_eq_true Y) Y (AftOk.nil _)<|.sla (t:=0) 0 Y Y fun hs1l=>.sla (t:=0) 1 Y Y fun hs2l=>.sla (t:=0) 2 Y Y fun hs3l=>.sl (t:=1) Y fun hs4l=>.seq<|.rs fun k5=>.g (fun _ τ=>⟨_,.box (.no Y) Y Y Y Y Y τ⟩)<|.as Y ?_
 refine .z<|.seq<|.seq ?_
 refine .reg (X:=Unit) (fun ζ=>.of [(1,.one (.d (.sl false 98 3 (List.map Env.c98 (t))))),(2,.one (.ptr [2] (k5) 0)),(15,.one (.d (.v (.bool ((!(Decl.ok d)||(t.length:Int) != (leavesOf d)))))))] [([2],(k5,k5,.box [.d (.sl false 9 1 (List.map strc (d.vars))),.d (.sl false 9 1 (List.map strc (d.flags))),.d (.sl false 112 2 (List.map Arr.c (d.arrays)))]))]) [⟨[2],some 6,[[2]],[]⟩,⟨[6],some 7,[],[]⟩,⟨[7],some 8,[],[]⟩,⟨[8],some 9,[],[]⟩,⟨[9,1],some 10,[],[]⟩,⟨[9,10],some 11,[],[]⟩,⟨[9,2],some 12,[[2]],[]⟩,⟨[9,12],some 13,[],[]⟩,⟨[9,11,13],some 14,[],[]⟩,⟨[9,14],some 15,[],[]⟩] (fun k6=>?_) ?_
 ·skip
  refine .load (.no Y) Y t33 Y Y (.ptr _ _ _ _ _ Y) Y Y Y Y<|.call (.no Y) Y [] [] (c_sDeclOk d (by first | assumption | exact hx _ (getD_mem (by omega))) (by first | assumption | exact hx _ (getD_mem (by omega)))) Y Y Y Y Y (.dd (.dd (.dd .nil))) Y Y (fun h=>absurd Y h) (.own [7,0] .nil) (.nil) Y Y Y (by simp) Y Y Y<|.un (.no Y) Y Y Y Y Y<|.moveB (.no Y) Y Y Y Y fun b7 g1_3=>?_
  cases b7
  ·skip
   refine .move (.on Y Y Y Y Y) Y Y Y Y<|.len (.on Y Y Y Y Y) Y (z:=(t.length:Int)) t60 Y Y Y (.d _ _) (map_len _ _) Y<|.load (.on Y Y Y Y Y) Y t33 Y Y (.ptr _ _ _ _ _ Y) Y Y Y Y<|.call (.on Y Y Y Y Y) Y [] [] (c_l8Size d) Y Y Y Y Y (.dd (.dd (.dd .nil))) Y Y (fun h=>absurd Y h) (.own [13,0] .nil) (.nil) Y Y Y (by simp) Y Y Y<|.bin (.on Y Y Y Y Y) Y Y Y Y Y Y<|.pick (.no Y) Y Y Y Y Y ?_
   exact .fin () (.of (.cons Y (.cons Y (.cons (svB (show ((t.length:Int) != (leavesOf d))=((!(Decl.ok d)||(t.length:Int) != (leavesOf d))) by first | (simp only [g1_3,Bool.true_or,Bool.false_or,Bool.true_and,Bool.false_and,Bool.not_true,Bool.not_false]; done) | (simp [g1_3]; done) | (exfalso; simp_all; done))) .nil))) (.r Y))
  ·skip
   refine .off Y Y Y Y Y Y Y<|.off Y Y Y Y Y Y Y<|.off Y Y Y Y Y Y Y<|.off Y Y Y Y Y Y Y<|.off Y Y Y Y Y Y Y<|.pick (.no Y) Y Y Y Y Y ?_
   exact .fin () (.of (.cons Y (.cons Y (.cons (svB (show (true)=((!(Decl.ok d)||(t.length:Int) != (leavesOf d))) by first | (simp only [g1_3,Bool.true_or,Bool.false_or,Bool.true_and,Bool.false_and,Bool.not_true,Bool.not_false]; done) | (simp [g1_3]; done) | (exfalso; simp_all; done))) .nil))) (.r Y))
 intro _
 refine .cond (t:=(!(Decl.ok d)||(t.length:Int) != (leavesOf d))) Y (fun c0=>?_) (fun c0=>?_)
 ·have c0:=(oT (nT id) bT) c0
  refine .seq<|.rs fun k8=>.as Y<|.z<|.ret ?_
  exact fin0 (.inr Y) (.one (svB (show (false)=(Table.ok d t) by (unfold Table.ok Table.isIn; rcases c0 with h | h<;>simp [h]))) .nil) (.dd .nil) Y
 ·have c0:=(oF (nF id) bF) c0
  refine .skip<|.seq<|.seq<|.rs fun k10=>.as Y<|.z<|.block ?_
  refine .loop (X:=Nat) (fun ζ=>.of [(1,.one (.d (.sl false 98 3 (List.map Env.c98 (t))))),(2,.one (.ptr [2] (k5) 0)),(5,.one (.d (.v (.int .i64 ((ζ:Int))))))] [([2],(k5,k5,.box [.d (.sl false 9 1 (List.map strc (d.vars))),.d (.sl false 9 1 (List.map strc (d.flags))),.d (.sl false 112 2 (List.map Arr.c (d.arrays)))]))]) (fun ζ=>ζ≤t.length∧allTo ζ (fun i=>Env.okIn d (t.getD i default))=true) (fun ζ=>t.length - ζ) ?_ ?_
  ·skip
   exact .here 0 (.of (.cons Y (.cons Y (.cons (svI (show (0)=((0:Int)) by first | rfl | omega | exact wrap_le (by omega) (by omega) | (rw [wrap_le (by omega) (by omega)]; omega))) .nil))) (.r Y)) (show 0≤t.length∧allTo 0 (fun i=>Env.okIn d (t.getD i default))=true by exact ⟨by omega,rfl⟩)
  ·rintro j hI
   have hI:j≤t.length∧allTo j (fun i=>Env.okIn d (t.getD i default))=true:=hI
   refine .seq<|.seq<|.rs fun k11=>.mv Y<|.mv Y<|.g (fun _ τ=>⟨_,.len (.no Y) Y (z:=(t.length:Int)) t60 Y Y Y (.d _ _) (map_len _ _) Y τ⟩)<|.bi Y<|.z ?_
   refine .cond (t:=decide ((j:Int) < (t.length:Int))) Y (fun c1=>?_) (fun c1=>?_)
   ·have c1:=of_decide_eq_true c1
    refine .skip<|.seq<|.block<|.seq ?_
    refine .regD (X:=Unit) (by kernel_rfl) (fun ζ=>.of [(1,.one (.d (.sl false 98 3 (List.map Env.c98 (t))))),(2,.one (.ptr [2] (k5) 0)),(5,.one (.d (.v (.int .i64 ((j:Int)))))),(28,.one (.d (.v (.bool (!(Decl.ok d&&Env.okIn d (t.getD j default)))))))] [([2],(k5,k5,.box [.d (.sl false 9 1 (List.map strc (d.vars))),.d (.sl false 9 1 (List.map strc (d.flags))),.d (.sl false 112 2 (List.map Arr.c (d.arrays)))]))]) [⟨[2],some 22,[[2]],[]⟩,⟨[1],some 23,[],[]⟩,⟨[5],some 24,[],[]⟩,⟨[23,24],some 25,[],[]⟩,⟨[25],some 26,[],[]⟩,⟨[22,26],some 27,[],[]⟩,⟨[27],some 28,[],[]⟩] (by kernel_rfl) (fun k12=>?_) ?_
    ·skip
     refine .load (.no Y) Y t33 Y Y (.ptr _ _ _ _ _ Y) Y Y Y Y<|.move (.no Y) Y Y Y Y<|.move (.no Y) Y Y Y Y<|.indexAddr (.no Y) Y (j) t60 Y t98 Y Y Y (.d _ _) Y Y Y (map_get (by omega)) Y Y<|.load (.no Y) Y t98 Y Y (.d _) Y Y Y Y<|.call (.no Y) Y [] [] (c_sEnvOk d (t.getD j default) (by first | assumption | exact hx _ (getD_mem (by omega))) (by first | assumption | exact hx _ (getD_mem (by omega))) (by first | assumption | exact hx _ (getD_mem (by omega)))) Y Y Y Y Y (.dd (.dd (.dd (.dd (.dd (.dd .nil)))))) Y Y (fun h=>absurd Y h) (.own [27,0] .nil) (.nil) Y Y Y (by simp) Y Y Y<|.un (.no Y) Y Y Y Y Y ?_
     exact .fin () (.of (.r Y) (.r Y))
    intro _
    refine .cond (t:=!(Decl.ok d&&Env.okIn d (t.getD j default))) Y (fun c2=>?_) (fun c2=>?_)
    ·have c2:=(nT (aF id id)) c2
     refine .seq<|.rs fun k13=>.as Y<|.z<|.ret ?_
     exact fin0 (.inr Y) (.one (svB (show (false)=(Table.ok d t) by (unfold Table.ok Table.isIn; rw [all_none (p:=Env.okIn d) (j:=j) (by omega) (by rcases c2 with h | h<;>first | exact h | (rw [c0.1] at h; exact absurd h (by decide))),Bool.and_false,Bool.and_false]))) .nil) (.dd .nil) Y
    ·have c2:=(nF (aT id id)) c2
     refine .skip<|.rs fun k15=>.mv Y<|.bi Y<|.as Y<|.z ?_
     exact .here (j+1) (.of (.cons Y (.cons Y (.cons (svI (show (IntKind.wrap .i64 ((j:Int)+1))=(((j+1):Int)) by first | rfl | omega | exact wrap_le (by omega) (by omega) | (rw [wrap_le (by omega) (by omega)]; omega))) .nil))) (.r Y)) ⟨(show (j+1)≤t.length∧allTo (j+1) (fun i=>Env.okIn d (t.getD i default))=true by exact ⟨by omega,allTo_step hI.2 c2.2⟩),(show t.length - (j+1) < t.length - j by omega)⟩
   ·have c1:=of_decide_eq_false c1
    refine .exit<|.seq<|.rs fun k16=>.as Y<|.z<|.ret ?_
    exact fin0 (.inr Y) (.one (svB (show (true)=(Table.ok d t) by (unfold Table.ok Table.isIn; rw [c0.1,all_done (p:=Env.okIn d) (j:=j) (by omega) hI.2]; simp [c0.2]))) .nil) (.dd .nil) Y
end Go.Proofs

namespace Go.Proofs
open Go Go.Proofs Go.Ev

theorem c_isTable (d:Decl) (t:List Env):Trip Tryz.prog 162 [(true,3),(false,1)] (Decl.c33 d++[.sl false 98 3 (List.map Env.c98 (t))]) [(false,1)] [.v (.bool (Table.isIn d t))] []:=by
 refine Trip.of Tryz.func162 (by decide) (c:=_) Y Y (Nat.le_of_ble_eq_true Y) Y (AftOk.nil _)<|.sla (t:=0) 0 Y Y fun hs1l=>.sla (t:=0) 1 Y Y fun hs2l=>.sla (t:=0) 2 Y Y fun hs3l=>.sl (t:=1) Y fun hs4l=>.seq<|.rs fun k5=>.g (fun _ τ=>⟨_,.box (.no Y) Y Y Y Y Y τ⟩)<|.as Y ?_
 refine .z<|.seq ?_
 refine .regD (X:=Unit) (by kernel_rfl) (fun ζ=>.of [(4,.one (.d (.v (.bool (((t.length:Int) == (leavesOf d)&&t.all (fun x0=>Env.okIn d x0)))))))] []) [⟨[1],some 5,[],[]⟩,⟨[5],some 6,[],[]⟩,⟨[2],some 7,[[2]],[]⟩,⟨[7],some 8,[],[]⟩,⟨[6,8],some 9,[],[]⟩,⟨[9],some 10,[],[]⟩,⟨[10,1],some 11,[],[]⟩,⟨[10,2],some 12,[[2]],[]⟩,⟨[10,12],some 13,[],[]⟩,⟨[10,11,13],some 14,[],[]⟩,⟨[10,14],some 15,[],[]⟩,⟨[15],some 4,[],[]⟩] (by kernel_rfl) (fun k6=>?_) ?_
 ·skip
  refine .move (.no Y) Y Y Y Y<|.call (.no Y) Y [] [] (c_sizeE t) Y Y Y Y Y (.dd .nil) Y Y (fun h=>absurd Y h) (.own [6,0] .nil) (.nil) Y Y Y (by simp) Y Y Y<|.load (.no Y) Y t33 Y Y (.ptr _ _ _ _ _ Y) Y Y Y Y<|.call (.no Y) Y [] [] (c_leaves d) Y Y Y Y Y (.dd (.dd (.dd .nil))) Y Y (fun h=>absurd Y h) (.own [8,0] .nil) (.nil) Y Y Y (by simp) Y Y Y<|.bin (.no Y) Y Y Y Y Y Y<|.moveB (.no Y) Y Y Y Y fun b7 g1_5=>?_
  cases b7
  ·skip
   refine .off Y Y Y Y Y Y Y<|.off Y Y Y Y Y Y Y<|.off Y Y Y Y Y Y Y<|.off Y Y Y Y Y Y Y<|.pick (.no Y) Y Y Y Y Y<|.assign (.no Y) Y Y Y Y ?_
   exact .fin () (.of (.cons (svB (show (false)=(((t.length:Int) == (leavesOf d)&&t.all (fun x0=>Env.okIn d x0))) by first | (simp only [g1_5,Bool.true_or,Bool.false_or,Bool.true_and,Bool.false_and,Bool.not_true,Bool.not_false]; done) | (simp [g1_5]; done) | (exfalso; simp_all; done))) .nil) .nil)
  ·skip
   refine .move (.on Y Y Y Y Y) Y Y Y Y<|.load (.on Y Y Y Y Y) Y t33 Y Y (.ptr _ _ _ _ _ Y) Y Y Y Y<|.makeFunc (.on Y Y Y Y Y) Y Y Y Y Y<|.call (.on Y Y Y Y Y) Y [] [] (c_areAllE t 199 [(true,[.sl false 9 1 (List.map strc (d.vars)),.sl false 9 1 (List.map strc (d.flags)),.sl false 112 2 (List.map Arr.c (d.arrays))])] [] (fun x0=>Env.okIn d x0) (fun x0=>c_isEnv d x0)) Y Y Y Y Y (.dd (.cons (Reads.clo1 (.cons (Reads.d _) (.cons (Reads.d _) (.cons (Reads.d _) .nil))) (.nil)).gives .nil)) Y Y (fun h=>absurd Y h) (.own [14,0] .nil) (.nil) Y Y Y (by simp) Y Y Y<|.pick (.no Y) Y Y Y Y Y<|.assign (.no Y) Y Y Y Y ?_
   exact .fin () (.of (.cons (svB (show (t.all (fun x0=>Env.okIn d x0))=(((t.length:Int) == (leavesOf d)&&t.all (fun x0=>Env.okIn d x0))) by first | (simp only [g1_5,Bool.true_or,Bool.false_or,Bool.true_and,Bool.false_and,Bool.not_true,Bool.not_false]; done) | (simp [g1_5]; done) | (exfalso; simp_all; done))) .nil) .nil)
 intro _
 refine .ret ?_
 exact fin0 (.inr Y) (.one (svB (show (((t.length:Int) == (leavesOf d)&&t.all (fun x0=>Env.okIn d x0)))=(Table.isIn d t) by rfl)) .nil) (.dd .nil) Y
end Go.Proofs

namespace Go.Proofs
open Go Go.Proofs Go.Ev

def Entry.c (x:Entry):List D:=[.v (.int .i64 (x.line)),.v (.int .i64 (x.pick))]
theorem Entry.c_o (x:Entry):∀ d∈Entry.c x,Owned d:=by simp [Entry.c,Owned.v]
theorem Entry.c_e (x:Entry):(Entry.c x).map D.erase=Entry.c x:=by simp [Entry.c,D.erase_v]
def i49:TI:=⟨.sl 115,1,24,[.slice none 0 0]⟩
theorem t49:TyOk Tryz.prog 49 i49:=⟨Tryz.underlying49,by kernel_rfl⟩
theorem z49:ZOk Tryz.prog 49 i49:=⟨t49,rfl⟩
def i115:TI:=⟨.st [(0,2),(1,2)],2,16,[.int .i64 0,.int .i64 0]⟩
theorem t115:TyOk Tryz.prog 115 i115:=⟨⟨_,Tryz.underlying115,rfl⟩,by kernel_rfl⟩
theorem z115:ZOk Tryz.prog 115 i115:=⟨t115,rfl⟩
theorem p115:Places Tryz.prog [(0,2),(1,2)] [(0,1),(1,1)]:=by unfold Places; kernel_rfl
def i209:TI:=⟨.sl 3,1,24,[.slice none 0 0]⟩
theorem t209:TyOk Tryz.prog 209 i209:=⟨Tryz.underlying209,by kernel_rfl⟩
theorem z209:ZOk Tryz.prog 209 i209:=⟨t209,rfl⟩
theorem c_sTokenOk (t:List Entry):Trip Tryz.prog 29 [(false,1)] ([.sl false 115 2 (List.map Entry.c (t))]) [(false,1)] [.v (.bool (tokOk t))] []:=by
 refine Trip.of Tryz.func29 (by decide) (c:=_) Y Y (Nat.le_of_ble_eq_true Y) Y (AftOk.nil _)<|.sl (t:=0) Y fun hs1l=>.seq<|.rs fun k2=>.as Y<|.z<|.seq<|.seq<|.rs fun k3=>?_
 refine .mv Y<|.g (fun _ τ=>⟨_,.len (.no Y) Y (z:=(t.length:Int)) t49 Y Y Y (.d _ _) (map_len _ _) Y τ⟩)<|.bi Y<|.z ?_
 refine .cond (t:=decide ((t.length:Int) > 3)) Y (fun c0=>?_) (fun c0=>?_)
 ·have c0:=of_decide_eq_true c0
  refine .seq<|.rs fun k4=>.as Y<|.z<|.ret ?_
  exact fin0 (.inr Y) (.one (svB (show (false)=(tokOk t) by (rw [tokOk_no c0]))) .nil) (.dd .nil) Y
 ·have c0:=of_decide_eq_false c0
  refine .skip<|.seq<|.seq<|.rs fun k6=>.as Y<|.z<|.block ?_
  refine .loop (X:=Nat) (fun ζ=>.of [(0,.one (.d (.sl false 115 2 (List.map Entry.c (t))))),(3,.one (.d (.v (.int .i64 ((ζ:Int))))))] []) (fun ζ=>ζ≤t.length∧allTo ζ (fun i=>Entry.ok (t.getD i default))=true) (fun ζ=>t.length - ζ) ?_ ?_
  ·skip
   exact .here 0 (.of (.cons Y (.cons (svI (show (0)=((0:Int)) by first | rfl | omega | exact wrap_le (by omega) (by omega) | (rw [wrap_le (by omega) (by omega)]; omega))) .nil)) .nil) (show 0≤t.length∧allTo 0 (fun i=>Entry.ok (t.getD i default))=true by exact ⟨by omega,rfl⟩)
  ·rintro j hI
   have hI:j≤t.length∧allTo j (fun i=>Entry.ok (t.getD i default))=true:=hI
   refine .seq<|.seq<|.rs fun k7=>.mv Y<|.mv Y<|.g (fun _ τ=>⟨_,.len (.no Y) Y (z:=(t.length:Int)) t49 Y Y Y (.d _ _) (map_len _ _) Y τ⟩)<|.bi Y<|.z ?_
   refine .cond (t:=decide ((j:Int) < (t.length:Int))) Y (fun c1=>?_) (fun c1=>?_)
   ·have c1:=of_decide_eq_true c1
    refine .skip<|.seq<|.block<|.seq ?_
    refine .reg (X:=Unit) (fun ζ=>.of [(0,.one (.d (.sl false 115 2 (List.map Entry.c (t))))),(3,.one (.d (.v (.int .i64 ((j:Int)))))),(28,.one (.d (.v (.bool ((!(inR ((t.getD j default).line) 0 29)||!(inR ((t.getD j default).pick) 0 4)))))))] []) [⟨[0],some 13,[],[]⟩,⟨[3],some 14,[],[]⟩,⟨[13,14],some 15,[],[]⟩,⟨[15],some 16,[],[]⟩,⟨[16],some 17,[],[]⟩,⟨[17],some 18,[],[]⟩,⟨[18],some 19,[],[]⟩,⟨[19],some 20,[],[]⟩,⟨[20,0],some 21,[],[]⟩,⟨[20,3],some 22,[],[]⟩,⟨[20,21,22],some 23,[],[]⟩,⟨[20,23],some 24,[],[]⟩,⟨[20,24],some 25,[],[]⟩,⟨[20,25],some 26,[],[]⟩,⟨[20,26],some 27,[],[]⟩,⟨[20,27],some 28,[],[]⟩] (fun k8=>?_) ?_
    ·skip
     refine .move (.no Y) Y Y Y Y<|.move (.no Y) Y Y Y Y<|.indexAddr (.no Y) Y (j) t49 Y t115 Y Y Y (.d _ _) Y Y Y (map_get (by omega)) Y Y<|.fieldAddr (.no Y) Y t115 Y Y t2 Y Y Y Y [] (by simp) (by intro _ _ _ h; cases h) Y Y<|.load (.no Y) Y t2 Y Y (.d _) Y Y Y Y<|.call (.no Y) Y [] [] (c_l1In ((t.getD j default).line) 0 29) Y Y Y Y Y (.dd (.dd (.dd .nil))) Y Y (fun h=>absurd Y h) (.own [18,0] .nil) (.nil) Y Y Y (by simp) Y Y Y<|.un (.no Y) Y Y Y Y Y<|.moveB (.no Y) Y Y Y Y fun b9 g6_7=>?_
     cases b9
     ·skip
      refine .move (.on Y Y Y Y Y) Y Y Y Y<|.move (.on Y Y Y Y Y) Y Y Y Y<|.indexAddr (.on Y Y Y Y Y) Y (j) t49 Y t115 Y Y Y (.d _ _) Y Y Y (map_get (by omega)) Y Y<|.fieldAddr (.on Y Y Y Y Y) Y t115 Y Y t2 Y Y Y Y [] (by simp) (by intro _ _ _ h; cases h) Y Y<|.load (.on Y Y Y Y Y) Y t2 Y Y (.d _) Y Y Y Y<|.call (.on Y Y Y Y Y) Y [] [] (c_l1In ((t.getD j default).pick) 0 4) Y Y Y Y Y (.dd (.dd (.dd .nil))) Y Y (fun h=>absurd Y h) (.own [26,0] .nil) (.nil) Y Y Y (by simp) Y Y Y<|.un (.on Y Y Y Y Y) Y Y Y Y Y<|.pick (.no Y) Y Y Y Y Y ?_
      exact .fin () (.of (.cons Y (.cons Y (.cons (svB (show (!(inR ((t.getD j default).pick) 0 4))=((!(inR ((t.getD j default).line) 0 29)||!(inR ((t.getD j default).pick) 0 4))) by first | (simp only [g6_7,Bool.true_or,Bool.false_or,Bool.true_and,Bool.false_and,Bool.not_true,Bool.not_false]; done) | (simp [g6_7]; done) | (exfalso; simp_all; done))) .nil))) .nil)
     ·skip
      refine .off Y Y Y Y Y Y Y<|.off Y Y Y Y Y Y Y<|.off Y Y Y Y Y Y Y<|.off Y Y Y Y Y Y Y<|.off Y Y Y Y Y Y Y<|.off Y Y Y Y Y Y Y<|.off Y Y Y Y Y Y Y<|.pick (.no Y) Y Y Y Y Y ?_
      exact .fin () (.of (.cons Y (.cons Y (.cons (svB (show (true)=((!(inR ((t.getD j default).line) 0 29)||!(inR ((t.getD j default).pick) 0 4))) by first | (simp only [g6_7,Bool.true_or,Bool.false_or,Bool.true_and,Bool.false_and,Bool.not_true,Bool.not_false]; done) | (simp [g6_7]; done) | (exfalso; simp_all; done))) .nil))) .nil)
    intro _
    refine .cond (t:=(!(inR ((t.getD j default).line) 0 29)||!(inR ((t.getD j default).pick) 0 4))) Y (fun c2=>?_) (fun c2=>?_)
    ·have c2:=(oT (nT id) (nT id)) c2
     refine .seq<|.rs fun k10=>.as Y<|.z<|.ret ?_
     exact fin0 (.inr Y) (.one (svB (show (false)=(tokOk t) by (rw [tokOk_fail (j:=j) (by omega) c2]))) .nil) (.dd .nil) Y
    ·have c2:=(oF (nF id) (nF id)) c2
     refine .skip<|.rs fun k12=>.mv Y<|.bi Y<|.as Y<|.z ?_
     exact .here (j+1) (.of (.cons Y (.cons (svI (show (IntKind.wrap .i64 ((j:Int)+1))=(((j+1):Int)) by first | rfl | omega | exact wrap_le (by omega) (by omega) | (rw [wrap_le (by omega) (by omega)]; omega))) .nil)) .nil) ⟨(show (j+1)≤t.length∧allTo (j+1) (fun i=>Entry.ok (t.getD i default))=true by exact ⟨by omega,allTo_step hI.2 (entry_of c2)⟩),(show t.length - (j+1) < t.length - j by omega)⟩
   ·have c1:=of_decide_eq_false c1
    refine .exit<|.seq<|.rs fun k13=>.as Y<|.z<|.ret ?_
    exact fin0 (.inr Y) (.one (svB (show (true)=(tokOk t) by (rw [tokOk_done (j:=j) c0 (by omega) hI.2]))) .nil) (.dd .nil) Y
theorem c_l9Cmp (a:List Entry) (b:List Entry) (ha:tokOk a=true) (hb:tokOk b=true):Trip Tryz.prog 74 [(false,1),(false,1)] ([.sl false 115 2 (List.map Entry.c (a))]++[.sl false 115 2 (List.map Entry.c (b))]) [(false,1)] [.v (.int .i64 (tokCmp a b))] []:=by
 refine Trip.of Tryz.func74 (by decide) (c:=_) Y Y (Nat.le_of_ble_eq_true Y) Y (AftOk.nil _)<|.sl (t:=0) Y fun hs1l=>.sl (t:=1) Y fun hs2l=>.seq<|.rs fun k3=>.as Y<|.z<|.seq<|.seq ?_
 refine .rs fun k4=>.mv Y<|.g (fun _ τ=>⟨_,.len (.no Y) Y (z:=(a.length:Int)) t49 Y Y Y (.d _ _) (map_len _ _) Y τ⟩)<|.mv Y<|.g (fun _ τ=>⟨_,.len (.no Y) Y (z:=(b.length:Int)) t49 Y Y Y (.d _ _) (map_len _ _) Y τ⟩)<|.bi Y<|.z ?_
 refine .cond (t:=(a.length:Int) != (b.length:Int)) Y (fun c0=>?_) (fun c0=>?_)
 ·have c0:=(by simpa using c0:¬ ((a.length:Int)=(b.length:Int)))
  refine .seq<|.seq<|.rs fun k5=>.mv Y<|.g (fun _ τ=>⟨_,.len (.no Y) Y (z:=(a.length:Int)) t49 Y Y Y (.d _ _) (map_len _ _) Y τ⟩)<|.mv Y<|.g (fun _ τ=>⟨_,.len (.no Y) Y (z:=(b.length:Int)) t49 Y Y Y (.d _ _) (map_len _ _) Y τ⟩)<|.bi Y<|.z ?_
  refine .cond (t:=decide ((a.length:Int) < (b.length:Int))) Y (fun c1=>?_) (fun c1=>?_)
  ·have c1:=of_decide_eq_true c1
   refine .seq<|.rs fun k6=>.as Y<|.z<|.ret ?_
   exact fin0 (.inr Y) (.one (svI (show (-1)=(tokCmp a b) by exact tokCmp_lt c0 c1)) .nil) (.dd .nil) Y
  ·have c1:=of_decide_eq_false c1
   refine .skip<|.seq<|.rs fun k8=>.as Y<|.z<|.ret ?_
   exact fin0 (.inr Y) (.one (svI (show (1)=(tokCmp a b) by exact tokCmp_gt c0 c1)) .nil) (.dd .nil) Y
 ·have c0:=(by simpa using c0:(a.length:Int)=(b.length:Int))
  refine .skip<|.seq<|.seq<|.rs fun k10=>.as Y<|.z<|.block ?_
  refine .loop (X:=Nat) (fun ζ=>.of [(0,.one (.d (.sl false 115 2 (List.map Entry.c (a))))),(1,.one (.d (.sl false 115 2 (List.map Entry.c (b))))),(5,.one (.d (.v (.int .i64 ((ζ:Int))))))] []) (fun ζ=>ζ≤a.length∧lexC entCmp (a.drop ζ) (b.drop ζ)=lexC entCmp a b) (fun ζ=>a.length - ζ) ?_ ?_
  ·skip
   exact .here 0 (.of (.cons Y (.cons Y (.cons (svI (show (0)=((0:Int)) by first | rfl | omega | exact wrap_le (by omega) (by omega) | (rw [wrap_le (by omega) (by omega)]; omega))) .nil))) .nil) (show 0≤a.length∧lexC entCmp (a.drop 0) (b.drop 0)=lexC entCmp a b by exact ⟨by omega,rfl⟩)
  ·rintro j hI
   have hI:j≤a.length∧lexC entCmp (a.drop j) (b.drop j)=lexC entCmp a b:=hI
   refine .seq<|.seq<|.rs fun k11=>.mv Y<|.mv Y<|.g (fun _ τ=>⟨_,.len (.no Y) Y (z:=(a.length:Int)) t49 Y Y Y (.d _ _) (map_len _ _) Y τ⟩)<|.bi Y<|.z ?_
   refine .cond (t:=decide ((j:Int) < (a.length:Int))) Y (fun c2=>?_) (fun c2=>?_)
   ·have c2:=of_decide_eq_true c2
    refine .skip<|.seq<|.block<|.seq ?_
    refine .regD (X:=Unit) (by kernel_rfl) (fun ζ=>.of [(0,.one (.d (.sl false 115 2 (List.map Entry.c (a))))),(1,.one (.d (.sl false 115 2 (List.map Entry.c (b))))),(5,.one (.d (.v (.int .i64 ((j:Int)))))),(6,.one (.d (.v (.int .i64 (IntKind.wrap .i64 ((IntKind.wrap .i64 (10 * ((a.getD j default).line)))+((a.getD j default).pick)))))))] []) [⟨[0],some 24,[],[]⟩,⟨[5],some 25,[],[]⟩,⟨[24,25],some 26,[],[]⟩,⟨[26],some 27,[],[]⟩,⟨[27],some 28,[],[]⟩,⟨[28],some 29,[],[]⟩,⟨[0],some 30,[],[]⟩,⟨[5],some 31,[],[]⟩,⟨[30,31],some 32,[],[]⟩,⟨[32],some 33,[],[]⟩,⟨[33],some 34,[],[]⟩,⟨[29,34],some 35,[],[]⟩,⟨[35],some 6,[],[]⟩] (by kernel_rfl) (fun k12=>?_) ?_
    ·skip
     refine .move (.no Y) Y Y Y Y<|.move (.no Y) Y Y Y Y<|.indexAddr (.no Y) Y (j) t49 Y t115 Y Y Y (.d _ _) Y Y Y (map_get (by omega)) Y Y<|.fieldAddr (.no Y) Y t115 Y Y t2 Y Y Y Y [] (by simp) (by intro _ _ _ h; cases h) Y Y<|.load (.no Y) Y t2 Y Y (.d _) Y Y Y Y<|.bin (.no Y) Y Y Y Y Y Y<|.move (.no Y) Y Y Y Y<|.move (.no Y) Y Y Y Y<|.indexAddr (.no Y) Y (j) t49 Y t115 Y Y Y (.d _ _) Y Y Y (map_get (by omega)) Y Y ?_
     refine .fieldAddr (.no Y) Y t115 Y Y t2 Y Y Y Y [] (by simp) (by intro _ _ _ h; cases h) Y Y<|.load (.no Y) Y t2 Y Y (.d _) Y Y Y Y<|.bin (.no Y) Y Y Y Y Y Y<|.assign (.no Y) Y Y Y Y ?_
     exact .fin () (.of (.r Y) .nil)
    intro _
    refine .seq ?_
    refine .regD (X:=Unit) (by kernel_rfl) (fun ζ=>.of [(0,.one (.d (.sl false 115 2 (List.map Entry.c (a))))),(1,.one (.d (.sl false 115 2 (List.map Entry.c (b))))),(5,.one (.d (.v (.int .i64 ((j:Int)))))),(6,.one (.d (.v (.int .i64 (IntKind.wrap .i64 ((IntKind.wrap .i64 (10 * ((a.getD j default).line)))+((a.getD j default).pick))))))),(7,.one (.d (.v (.int .i64 (IntKind.wrap .i64 ((IntKind.wrap .i64 (10 * ((b.getD j default).line)))+((b.getD j default).pick)))))))] []) [⟨[1],some 36,[],[]⟩,⟨[5],some 37,[],[]⟩,⟨[36,37],some 38,[],[]⟩,⟨[38],some 39,[],[]⟩,⟨[39],some 40,[],[]⟩,⟨[40],some 41,[],[]⟩,⟨[1],some 42,[],[]⟩,⟨[5],some 43,[],[]⟩,⟨[42,43],some 44,[],[]⟩,⟨[44],some 45,[],[]⟩,⟨[45],some 46,[],[]⟩,⟨[41,46],some 47,[],[]⟩,⟨[47],some 7,[],[]⟩] (by kernel_rfl) (fun k13=>?_) ?_
    ·skip
     refine .move (.no Y) Y Y Y Y<|.move (.no Y) Y Y Y Y<|.indexAddr (.no Y) Y (j) t49 Y t115 Y Y Y (.d _ _) Y Y Y (map_get (by omega)) Y Y<|.fieldAddr (.no Y) Y t115 Y Y t2 Y Y Y Y [] (by simp) (by intro _ _ _ h; cases h) Y Y<|.load (.no Y) Y t2 Y Y (.d _) Y Y Y Y<|.bin (.no Y) Y Y Y Y Y Y<|.move (.no Y) Y Y Y Y<|.move (.no Y) Y Y Y Y<|.indexAddr (.no Y) Y (j) t49 Y t115 Y Y Y (.d _ _) Y Y Y (map_get (by omega)) Y Y ?_
     refine .fieldAddr (.no Y) Y t115 Y Y t2 Y Y Y Y [] (by simp) (by intro _ _ _ h; cases h) Y Y<|.load (.no Y) Y t2 Y Y (.d _) Y Y Y Y<|.bin (.no Y) Y Y Y Y Y Y<|.assign (.no Y) Y Y Y Y ?_
     exact .fin () (.of (.r Y) .nil)
    intro _
    refine .seq<|.seq<|.rs fun k14=>.mv Y<|.mv Y<|.bi Y<|.z ?_
    refine .cond (t:=decide ((IntKind.wrap .i64 ((IntKind.wrap .i64 (10 * ((a.getD j default).line)))+((a.getD j default).pick))) < (IntKind.wrap .i64 ((IntKind.wrap .i64 (10 * ((b.getD j default).line)))+((b.getD j default).pick))))) Y (fun c3=>?_) (fun c3=>?_)
    ·have c3:=of_decide_eq_true c3
     refine .seq<|.rs fun k15=>.as Y<|.z<|.ret ?_
     exact fin0 (.inr Y) (.one (svI (show (-1)=(tokCmp a b) by exact l9_ret (by omega) (by omega) hI.2 ((l9_key ha hb (by omega) (j:=j) (by omega)).trans (cmpI_lt c3)) (by decide))) .nil) (.dd .nil) Y
    ·have c3:=of_decide_eq_false c3
     refine .skip<|.seq<|.rs fun k17=>.mv Y<|.mv Y<|.bi Y<|.z ?_
     refine .cond (t:=decide ((IntKind.wrap .i64 ((IntKind.wrap .i64 (10 * ((a.getD j default).line)))+((a.getD j default).pick))) > (IntKind.wrap .i64 ((IntKind.wrap .i64 (10 * ((b.getD j default).line)))+((b.getD j default).pick))))) Y (fun c4=>?_) (fun c4=>?_)
     ·have c4:=of_decide_eq_true c4
      refine .seq<|.rs fun k18=>.as Y<|.z<|.ret ?_
      exact fin0 (.inr Y) (.one (svI (show (1)=(tokCmp a b) by exact l9_ret (by omega) (by omega) hI.2 ((l9_key ha hb (by omega) (j:=j) (by omega)).trans (cmpI_gt c3 c4)) (by decide))) .nil) (.dd .nil) Y
     ·have c4:=of_decide_eq_false c4
      refine .skip<|.rs fun k20=>.mv Y<|.bi Y<|.as Y<|.z ?_
      exact .here (j+1) (.of (.cons Y (.cons Y (.cons (svI (show (IntKind.wrap .i64 ((j:Int)+1))=(((j+1):Int)) by first | rfl | omega | exact wrap_le (by omega) (by omega) | (rw [wrap_le (by omega) (by omega)]; omega))) .nil))) .nil) ⟨(show (j+1)≤a.length∧lexC entCmp (a.drop (j+1)) (b.drop (j+1))=lexC entCmp a b by exact ⟨by omega,(lexC_step (by omega) (by omega) ((l9_key ha hb (by omega) (j:=j) (by omega)).trans (cmpI_eq c3 c4))).symm.trans hI.2⟩),(show a.length - (j+1) < a.length - j by omega)⟩
   ·have c2:=of_decide_eq_false c2
    refine .exit<|.seq<|.rs fun k21=>.as Y<|.z<|.ret ?_
    exact fin0 (.inr Y) (.one (svI (show (0)=(tokCmp a b) by (rw [tokCmp_len (by omega),← hI.2,lexC_end (by omega) (by omega)]))) .nil) (.dd .nil) Y
theorem c_l9Live (t:List Env):Trip Tryz.prog 76 [(false,1)] ([.sl false 98 3 (List.map Env.c98 (t))]) [(false,1)] [.v (.bool (t.any Env.live))] []:=by
 refine Trip.of Tryz.func76 (by decide) (c:=_) Y Y (Nat.le_of_ble_eq_true Y) Y (AftOk.nil _)<|.sl (t:=0) Y fun hs1l=>.seq<|.rs fun k2=>.as Y<|.z<|.seq<|.seq<|.rs fun k3=>?_
 refine .as Y<|.z<|.block ?_
 refine .loop (X:=Nat) (fun ζ=>.of [(0,.one (.d (.sl false 98 3 (List.map Env.c98 (t))))),(3,.one (.d (.v (.int .i64 ((ζ:Int))))))] []) (fun ζ=>ζ≤t.length∧allTo ζ (fun i=>!Env.live (t.getD i default))=true) (fun ζ=>t.length - ζ) ?_ ?_
 ·skip
  exact .here 0 (.of (.cons Y (.cons (svI (show (0)=((0:Int)) by first | rfl | omega | exact wrap_le (by omega) (by omega) | (rw [wrap_le (by omega) (by omega)]; omega))) .nil)) .nil) (show 0≤t.length∧allTo 0 (fun i=>!Env.live (t.getD i default))=true by exact ⟨by omega,rfl⟩)
 ·rintro j hI
  have hI:j≤t.length∧allTo j (fun i=>!Env.live (t.getD i default))=true:=hI
  refine .seq<|.seq<|.rs fun k4=>.mv Y<|.mv Y<|.g (fun _ τ=>⟨_,.len (.no Y) Y (z:=(t.length:Int)) t60 Y Y Y (.d _ _) (map_len _ _) Y τ⟩)<|.bi Y<|.z ?_
  refine .cond (t:=decide ((j:Int) < (t.length:Int))) Y (fun c0=>?_) (fun c0=>?_)
  ·have c0:=of_decide_eq_true c0
   refine .skip<|.seq<|.block<|.seq<|.rs fun k5=>.mv Y<|.mv Y<|.g (fun _ τ=>⟨_,.indexAddr (.no Y) Y (j) t60 Y t98 Y Y Y (.d _ _) Y Y Y (map_get (by omega)) Y Y τ⟩)<|.g (fun _ τ=>⟨_,.fieldAddr (.no Y) Y t98 Y Y t4 Y Y Y Y [] (by simp) (by intro _ _ _ h; cases h) Y Y τ⟩) ?_
   refine .ld t4 Y (.d _) Y<|.z ?_
   refine .cond (t:=(t.getD j default).live) Y (fun c1=>?_) (fun c1=>?_)
   ·have c1:=c1
    refine .seq<|.rs fun k6=>.as Y<|.z<|.ret ?_
    exact fin0 (.inr Y) (.one (svB (show (true)=(t.any Env.live) by exact (any_found (p:=Env.live) (j:=j) (by omega) c1).symm)) .nil) (.dd .nil) Y
   ·have c1:=c1
    refine .skip<|.rs fun k8=>.mv Y<|.bi Y<|.as Y<|.z ?_
    exact .here (j+1) (.of (.cons Y (.cons (svI (show (IntKind.wrap .i64 ((j:Int)+1))=(((j+1):Int)) by first | rfl | omega | exact wrap_le (by omega) (by omega) | (rw [wrap_le (by omega) (by omega)]; omega))) .nil)) .nil) ⟨(show (j+1)≤t.length∧allTo (j+1) (fun i=>!Env.live (t.getD i default))=true by exact ⟨by omega,allTo_step hI.2 (by rw [show Env.live (t.getD j default)=false from c1]; rfl)⟩),(show t.length - (j+1) < t.length - j by omega)⟩
  ·have c0:=of_decide_eq_false c0
   refine .exit<|.seq<|.rs fun k9=>.as Y<|.z<|.ret ?_
   exact fin0 (.inr Y) (.one (svB (show (false)=(t.any Env.live) by exact (any_none (p:=Env.live) (j:=j) (by omega) hI.2).symm)) .nil) (.dd .nil) Y
theorem c_isNaNi (x:Int):Trip Tryz.prog 194 [(false,1)] ([.v (.int .i64 (x))]) [(false,1)] [.v (.bool (false))] []:=by
 refine Trip.of Tryz.func194 (by decide) (c:=_) Y Y (Nat.le_of_ble_eq_true Y) Y (AftOk.nil _)<|.seq<|.rs fun k1=>.as Y<|.z<|.seq<|.rs fun k2=>.mv Y<|.mv Y ?_
 refine .bi Y<|.as Y<|.z<|.ret ?_
 exact fin0 (.inr Y) (.one (svB (show (x != x)=(false) by simp)) .nil) (.dd .nil) Y
theorem c_Comparei (x:Int) (y:Int):Trip Tryz.prog 158 [(false,1),(false,1)] ([.v (.int .i64 (x))]++[.v (.int .i64 (y))]) [(false,1)] [.v (.int .i64 (cmpI x y))] []:=by
 refine Trip.of Tryz.func158 (by decide) (c:=_) Y Y (Nat.le_of_ble_eq_true Y) Y (AftOk.nil _)<|.seq<|.rs fun k1=>.as Y<|.z<|.seq<|.rs fun k2=>.mv Y<|.c0 (c_isNaNi x) Y (.dd .nil) (.own [8,0] .nil) Y ?_
 refine .as Y<|.z<|.seq<|.rs fun k3=>.mv Y<|.c0 (c_isNaNi y) Y (.dd .nil) (.own [10,0] .nil) Y<|.as Y<|.z<|.seq ?_
 refine .seq<|.rs fun k4=>.mv Y<|.z ?_
 refine .cond (t:=false) Y (fun h=>by cases h) (fun _=>?_)
 refine .skip<|.seq<|.seq<|.rs fun k5=>.mv Y<|.z ?_
 refine .cond (t:=false) Y (fun h=>by cases h) (fun _=>?_)
 refine .skip<|.seq<|.seq<|.rs fun k6=>.mv Y<|.mv Y<|.bi Y<|.z ?_
 refine .cond (t:=decide (x < y)) Y (fun c3=>?_) (fun c3=>?_)
 ·have c3:=of_decide_eq_true c3
  refine .seq<|.rs fun k7=>.as Y<|.z<|.ret ?_
  exact fin0 (.inr Y) (.one (svI (show (-1)=(cmpI x y) by (rw [cmpI_lt c3]))) .nil) (.dd .nil) Y
 ·have c3:=of_decide_eq_false c3
  refine .skip<|.seq<|.seq<|.rs fun k9=>.mv Y<|.mv Y<|.bi Y<|.z ?_
  refine .cond (t:=decide (x > y)) Y (fun c4=>?_) (fun c4=>?_)
  ·have c4:=of_decide_eq_true c4
   refine .seq<|.rs fun k10=>.as Y<|.z<|.ret ?_
   exact fin0 (.inr Y) (.one (svI (show (1)=(cmpI x y) by (rw [cmpI_gt c3 c4]))) .nil) (.dd .nil) Y
  ·have c4:=of_decide_eq_false c4
   refine .skip<|.seq<|.rs fun k12=>.as Y<|.z<|.ret ?_
   exact fin0 (.inr Y) (.one (svI (show (0)=(cmpI x y) by (rw [cmpI_eq c3 c4]))) .nil) (.dd .nil) Y
theorem c_Ori (l:List Int):Trip Tryz.prog 157 [(false,1)] ([.sl false 3 1 (List.map i64c (l))]) [(false,1)] [.v (.int .i64 (orL l))] []:=by
 refine Trip.of Tryz.func157 (by decide) (c:=_) Y Y (Nat.le_of_ble_eq_true Y) Y (AftOk.nil _)<|.sl (t:=0) Y fun hs1l=>.seq<|.rs fun k2=>.as Y<|.z<|.seq<|.rs fun k3=>.as Y ?_
 refine .z<|.seq<|.seq<|.rs fun k4=>.mv Y<|.g (fun _ τ=>⟨_,.len (.no Y) Y (z:=(l.length:Int)) t209 Y Y Y (.d _ _) (map_len _ _) Y τ⟩)<|.mv Y<|.z<|.block ?_
 refine .loop (X:=Nat) (fun ζ=>.of [(3,.one (.d (.v (.int .i64 (0))))),(6,.one (.d (.sl false 3 1 (List.map i64c (l))))),(7,.one (.d (.v (.int .i64 ((l.length:Int)))))),(8,.one (.d (.v (.int .i64 ((ζ:Int))))))] []) (fun ζ=>ζ≤l.length∧orL (l.drop ζ)=orL l) (fun ζ=>l.length - ζ) ?_ ?_
 ·skip
  exact .here 0 (.of (.cons Y (.cons Y (.cons Y (.cons (svI (show (0)=((0:Int)) by first | rfl | omega | exact wrap_le (by omega) (by omega) | (rw [wrap_le (by omega) (by omega)]; omega))) .nil)))) .nil) (show 0≤l.length∧orL (l.drop 0)=orL l by exact ⟨by omega,rfl⟩)
 ·rintro j hI
  have hI:j≤l.length∧orL (l.drop j)=orL l:=hI
  refine .seq<|.rs fun k5=>.bi Y<|.z<|.seq ?_
  refine .cond (t:=decide ((j:Int) < (l.length:Int))) Y (fun c0=>?_) (fun c0=>?_)
  ·have c0:=of_decide_eq_true c0
   refine .skip<|.seq<|.block<|.seq<|.rs fun k6=>.g (fun _ τ=>⟨_,.indexAddr (.no Y) Y (j) t209 Y t3 Y Y Y (.d _ _) Y Y Y (map_get (by omega)) Y Y τ⟩)<|.ld t3 Y (.d _) Y<|.as Y<|.z ?_
   refine .seq<|.rs fun k7=>.mv Y<|.mv Y<|.bi Y<|.z ?_
   refine .cond (t:=(l.getD j default) != 0) Y (fun c1=>?_) (fun c1=>?_)
   ·have c1:=(by simpa using c1:¬ ((l.getD j default)=0))
    refine .seq<|.rs fun k8=>.mv Y<|.as Y<|.z<|.ret ?_
    exact fin0 (.inr Y) (.one (svI (show (l.getD j default)=(orL l) by (rw [← hI.2,orL_here (by omega) c1]))) .nil) (.dd .nil) Y
   ·have c1:=(by simpa using c1:(l.getD j default)=0)
    refine .skip<|.rs fun k10=>.bi Y<|.mv Y<|.z ?_
    exact .here (j+1) (.of (.cons Y (.cons Y (.cons Y (.cons (svI (show (IntKind.wrap .i64 ((j:Int)+1))=(((j+1):Int)) by first | rfl | omega | exact wrap_le (by omega) (by omega) | (rw [wrap_le (by omega) (by omega)]; omega))) .nil)))) .nil) ⟨(show (j+1)≤l.length∧orL (l.drop (j+1))=orL l by exact ⟨by omega,(orL_step (by omega) (by simpa using c1)).symm.trans hI.2⟩),(show l.length - (j+1) < l.length - j by omega)⟩
  ·have c0:=of_decide_eq_false c0
   refine .exit<|.seq<|.rs fun k11=>.mv Y<|.as Y<|.z<|.ret ?_
   exact fin0 (.inr Y) (.one (svI (show (0)=(orL l) by (rw [← hI.2,orL_end (by omega)]))) .nil) (.dd .nil) Y
theorem c_isNaNl (x:Int):Trip Tryz.prog 195 [(false,1)] ([.v (.int .i64 (x))]) [(false,1)] [.v (.bool (false))] []:=by
 refine Trip.of Tryz.func195 (by decide) (c:=_) Y Y (Nat.le_of_ble_eq_true Y) Y (AftOk.nil _)<|.seq<|.rs fun k1=>.as Y<|.z<|.seq<|.rs fun k2=>.mv Y<|.mv Y ?_
 refine .bi Y<|.as Y<|.z<|.ret ?_
 exact fin0 (.inr Y) (.one (svB (show (x != x)=(false) by simp)) .nil) (.dd .nil) Y
theorem c_Comparel (x:Int) (y:Int):Trip Tryz.prog 161 [(false,1),(false,1)] ([.v (.int .i64 (x))]++[.v (.int .i64 (y))]) [(false,1)] [.v (.int .i64 (cmpI x y))] []:=by
 refine Trip.of Tryz.func161 (by decide) (c:=_) Y Y (Nat.le_of_ble_eq_true Y) Y (AftOk.nil _)<|.seq<|.rs fun k1=>.as Y<|.z<|.seq<|.rs fun k2=>.mv Y<|.c0 (c_isNaNl x) Y (.dd .nil) (.own [8,0] .nil) Y ?_
 refine .as Y<|.z<|.seq<|.rs fun k3=>.mv Y<|.c0 (c_isNaNl y) Y (.dd .nil) (.own [10,0] .nil) Y<|.as Y<|.z<|.seq ?_
 refine .seq<|.rs fun k4=>.mv Y<|.z ?_
 refine .cond (t:=false) Y (fun h=>by cases h) (fun _=>?_)
 refine .skip<|.seq<|.seq<|.rs fun k5=>.mv Y<|.z ?_
 refine .cond (t:=false) Y (fun h=>by cases h) (fun _=>?_)
 refine .skip<|.seq<|.seq<|.rs fun k6=>.mv Y<|.mv Y<|.bi Y<|.z ?_
 refine .cond (t:=decide (x < y)) Y (fun c3=>?_) (fun c3=>?_)
 ·have c3:=of_decide_eq_true c3
  refine .seq<|.rs fun k7=>.as Y<|.z<|.ret ?_
  exact fin0 (.inr Y) (.one (svI (show (-1)=(cmpI x y) by (rw [cmpI_lt c3]))) .nil) (.dd .nil) Y
 ·have c3:=of_decide_eq_false c3
  refine .skip<|.seq<|.seq<|.rs fun k9=>.mv Y<|.mv Y<|.bi Y<|.z ?_
  refine .cond (t:=decide (x > y)) Y (fun c4=>?_) (fun c4=>?_)
  ·have c4:=of_decide_eq_true c4
   refine .seq<|.rs fun k10=>.as Y<|.z<|.ret ?_
   exact fin0 (.inr Y) (.one (svI (show (1)=(cmpI x y) by (rw [cmpI_gt c3 c4]))) .nil) (.dd .nil) Y
  ·have c4:=of_decide_eq_false c4
   refine .skip<|.seq<|.rs fun k12=>.as Y<|.z<|.ret ?_
   exact fin0 (.inr Y) (.one (svI (show (0)=(cmpI x y) by (rw [cmpI_eq c3 c4]))) .nil) (.dd .nil) Y
end Go.Proofs

namespace Go.Proofs
open Go Go.Proofs Go.Ev

def i217:TI:=⟨.fn,1,8,[.nilFunc]⟩
theorem t217:TyOk Tryz.prog 217 i217:=⟨⟨_,_,_,Tryz.underlying217⟩,by kernel_rfl⟩
theorem z217:ZOk Tryz.prog 217 i217:=⟨t217,rfl⟩
theorem c_CompareFunc (a:List Entry) (b:List Entry) (F_p:FuncId) (first_p:List (Bool × List D)) (caps_p:List D) (p:Entry→Entry→Int) (h_p:∀ (x0:Entry) (x1:Entry),FnTrip Tryz.prog F_p first_p caps_p [(true,2),(true,2)] (Entry.c x0++Entry.c x1) [(false,1)] [.v (.int .i64 (p x0 x1))]):Trip Tryz.prog 159 [(false,1),(false,1),(false,1)] ([.sl false 115 2 (List.map Entry.c (a))]++[.sl false 115 2 (List.map Entry.c (b))]++[.fn F_p first_p caps_p]) [(false,1)] [.v (.int .i64 (lexC p a b))] []:=by
 refine Trip.of Tryz.func159 (by decide +kernel) (c:=_) Y Y (Nat.le_of_ble_eq_true Y) Y (AftOk.nil _)<|.sl (t:=0) Y fun hs1l=>.sl (t:=1) Y fun hs2l=>.seq<|.rs fun k3=>.as Y<|.z<|.seq<|.seq ?_
 refine .rs fun k4=>.mv Y<|.g (fun _ τ=>⟨_,.len (.no Y) Y (z:=(a.length:Int)) t49 Y Y Y (.d _ _) (map_len _ _) Y τ⟩)<|.mv Y<|.z<|.block ?_
 refine .loop (X:=Nat) (fun ζ=>.of [(0,.one (.d (.sl false 115 2 (List.map Entry.c (a))))),(1,.one (.d (.sl false 115 2 (List.map Entry.c (b))))),(2,.one (.d (.fn F_p first_p caps_p))),(11,.one (.d (.sl false 115 2 (List.map Entry.c (a))))),(12,.one (.d (.v (.int .i64 ((a.length:Int)))))),(13,.one (.d (.v (.int .i64 ((ζ:Int))))))] []) (fun ζ=>ζ≤a.length∧ζ≤b.length∧lexC p (a.drop ζ) (b.drop ζ)=lexC p a b) (fun ζ=>a.length - ζ) ?_ ?_
 ·skip
  exact .here 0 (.of (.cons Y (.cons Y (.cons Y (.cons Y (.cons Y (.cons (svI (show (0)=((0:Int)) by first | rfl | omega | exact wrap_le (by omega) (by omega) | (rw [wrap_le (by omega) (by omega)]; omega))) .nil)))))) .nil) (show 0≤a.length∧0≤b.length∧lexC p (a.drop 0) (b.drop 0)=lexC p a b by exact ⟨by omega,by omega,rfl⟩)
 ·rintro j hI
  have hI:j≤a.length∧j≤b.length∧lexC p (a.drop j) (b.drop j)=lexC p a b:=hI
  refine .seq<|.rs fun k5=>.bi Y<|.z<|.seq ?_
  refine .cond (t:=decide ((j:Int) < (a.length:Int))) Y (fun c0=>?_) (fun c0=>?_)
  ·have c0:=of_decide_eq_true c0
   refine .skip<|.seq<|.block<|.seq<|.rs fun k6=>.mv Y<|.g (fun _ τ=>⟨_,.indexAddr (.no Y) Y (j) t49 Y t115 Y Y Y (.d _ _) Y Y Y (map_get (by omega)) Y Y τ⟩)<|.lda t115 Y (.d _) Y<|.g (fun _ τ=>⟨_,.alloc (.no Y) Y z115 Y Y Y τ⟩) ?_
   refine .as Y<|.g (fun _ τ=>⟨_,.store (.no Y) Y t115 Y Y Y Y Y Y Y Y Y τ⟩)<|.z<|.seq<|.seq<|.rs fun k7=>.mv Y<|.mv Y<|.g (fun _ τ=>⟨_,.len (.no Y) Y (z:=(b.length:Int)) t49 Y Y Y (.d _ _) (map_len _ _) Y τ⟩) ?_
   refine .bi Y<|.z ?_
   refine .cond (t:=decide ((j:Int)≥(b.length:Int))) Y (fun c1=>?_) (fun c1=>?_)
   ·have c1:=of_decide_eq_true c1
    refine .seq<|.rs fun k8=>.as Y<|.z<|.ret ?_
    exact fin0 (.inr Y) (.one (svI (show (1)=(lexC p a b) by (rw [← hI.2.2,lexC_more (by omega) (by omega)]))) .nil) (.dd .nil) Y
   ·have c1:=of_decide_eq_false c1
    refine .skip<|.seq<|.rs fun k10=>.mv Y<|.mv Y<|.g (fun _ τ=>⟨_,.indexAddr (.no Y) Y (j) t49 Y t115 Y Y Y (.d _ _) Y Y Y (map_get (by omega)) Y Y τ⟩)<|.lda t115 Y (.d _) Y<|.g (fun _ τ=>⟨_,.alloc (.no Y) Y z115 Y Y Y τ⟩)<|.g (fun _ τ=>⟨_,.store (.no Y) Y t115 Y Y Y Y Y Y Y Y Y τ⟩) ?_
    refine .z<|.seq<|.rs fun k11=>.mv Y<|.lda t115 Y (.ptr _ _ _ _ _ Y) Y<|.lda t115 Y (.ptr _ _ _ _ _ Y) Y<|.g (fun _ τ=>⟨_,.callF (.no Y) Y (ds:=[.v (.int .i64 ((a.getD j default).line)),.v (.int .i64 ((a.getD j default).pick)),.v (.int .i64 ((b.getD j default).line)),.v (.int .i64 ((b.getD j default).pick))]) (h_p (a.getD j default) (b.getD j default)) Y Y Y Y (.own [29,0] .nil) Y Y Y Y Y Y τ⟩)<|.as Y<|.z ?_
    refine .seq<|.rs fun k12=>.mv Y<|.bi Y<|.z ?_
    refine .cond (t:=(p (a.getD j default) (b.getD j default)) != 0) Y (fun c2=>?_) (fun c2=>?_)
    ·have c2:=(by simpa using c2:¬ ((p (a.getD j default) (b.getD j default))=0))
     refine .seq<|.rs fun k13=>.mv Y<|.as Y<|.z<|.ret ?_
     exact fin0 (.inr Y) (.one (svI (show (p (a.getD j default) (b.getD j default))=(lexC p a b) by (rw [← hI.2.2,lexC_here (by omega) (by omega) c2]))) .nil) (.dd .nil) Y
    ·have c2:=(by simpa using c2:(p (a.getD j default) (b.getD j default))=0)
     refine .skip<|.rs fun k15=>.bi Y<|.mv Y<|.z ?_
     exact .here (j+1) (.of (.cons Y (.cons Y (.cons Y (.cons Y (.cons Y (.cons (svI (show (IntKind.wrap .i64 ((j:Int)+1))=(((j+1):Int)) by first | rfl | omega | exact wrap_le (by omega) (by omega) | (rw [wrap_le (by omega) (by omega)]; omega))) .nil)))))) .nil) ⟨(show (j+1)≤a.length∧(j+1)≤b.length∧lexC p (a.drop (j+1)) (b.drop (j+1))=lexC p a b by exact ⟨by omega,by omega,(lexC_step (by omega) (by omega) (by simpa using c2)).symm.trans hI.2.2⟩),(show a.length - (j+1) < a.length - j by omega)⟩
  ·have c0:=of_decide_eq_false c0
   refine .exit<|.seq<|.seq<|.rs fun k16=>.mv Y<|.g (fun _ τ=>⟨_,.len (.no Y) Y (z:=(a.length:Int)) t49 Y Y Y (.d _ _) (map_len _ _) Y τ⟩)<|.mv Y<|.g (fun _ τ=>⟨_,.len (.no Y) Y (z:=(b.length:Int)) t49 Y Y Y (.d _ _) (map_len _ _) Y τ⟩)<|.bi Y ?_
   refine .z ?_
   refine .cond (t:=decide ((a.length:Int) < (b.length:Int))) Y (fun c3=>?_) (fun c3=>?_)
   ·have c3:=of_decide_eq_true c3
    refine .seq<|.rs fun k17=>.as Y<|.z<|.ret ?_
    exact fin0 (.inr Y) (.one (svI (show (-1)=(lexC p a b) by (rw [← hI.2.2,lexC_less (by omega) (by omega)]))) .nil) (.dd .nil) Y
   ·have c3:=of_decide_eq_false c3
    refine .skip<|.seq<|.rs fun k19=>.as Y<|.z<|.ret ?_
    exact fin0 (.inr Y) (.one (svI (show (0)=(lexC p a b) by (rw [← hI.2.2,lexC_end (by omega) (by omega)]))) .nil) (.dd .nil) Y
theorem c_cmpTok1 (x:Entry) (y:Entry):Trip Tryz.prog 160 [(true,2),(true,2)] (Entry.c x++Entry.c y) [(false,1)] [.v (.int .i64 (entCmp x y))] []:=by
 refine Trip.of Tryz.func160 (by decide) (c:=_) Y Y (Nat.le_of_ble_eq_true Y) Y (AftOk.nil _)<|.seq<|.rs fun k1=>.g (fun _ τ=>⟨_,.box (.no Y) Y Y Y Y Y τ⟩)<|.g (fun _ τ=>⟨_,.box (.no Y) Y Y Y Y Y τ⟩)<|.as Y<|.z<|.seq ?_
 refine .regD (X:=Unit) (by kernel_rfl) (fun ζ=>.of [(4,.one (.d (.v (.int .i64 (orL [cmpI x.line y.line,cmpI x.pick y.pick])))))] []) [⟨[2],some 5,[],[]⟩,⟨[5],some 6,[[2]],[]⟩,⟨[3],some 7,[],[]⟩,⟨[7],some 8,[[3]],[]⟩,⟨[6,8],some 9,[],[]⟩,⟨[2],some 10,[],[]⟩,⟨[10],some 11,[[2]],[]⟩,⟨[3],some 12,[],[]⟩,⟨[12],some 13,[[3]],[]⟩,⟨[11,13],some 14,[],[]⟩,⟨[9,14],some 15,[],[[15]]⟩,⟨[15],some 16,[[15]],[]⟩,⟨[16],some 4,[],[]⟩] (by kernel_rfl) (fun k2=>?_) ?_
 ·skip
  refine .fieldAddrP (.no Y) Y t115 Y Y t2 Y Y Y Y<|.load (.no Y) Y t2 Y Y (.ptr _ _ _ _ _ Y) Y Y Y Y<|.fieldAddrP (.no Y) Y t115 Y Y t2 Y Y Y Y<|.load (.no Y) Y t2 Y Y (.ptr _ _ _ _ _ Y) Y Y Y Y<|.call (.no Y) Y [] [] (c_Comparel x.line y.line) Y Y Y Y Y (.dd (.dd .nil)) Y Y (fun h=>absurd Y h) (.own [9,0] .nil) (.nil) Y Y Y (by simp) Y Y Y<|.fieldAddrP (.no Y) Y t115 Y Y t2 Y Y Y Y<|.load (.no Y) Y t2 Y Y (.ptr _ _ _ _ _ Y) Y Y Y Y<|.fieldAddrP (.no Y) Y t115 Y Y t2 Y Y Y Y<|.load (.no Y) Y t2 Y Y (.ptr _ _ _ _ _ Y) Y Y Y Y ?_
  refine .call (.no Y) Y [] [] (c_Comparel x.pick y.pick) Y Y Y Y Y (.dd (.dd .nil)) Y Y (fun h=>absurd Y h) (.own [14,0] .nil) (.nil) Y Y Y (by simp) Y Y Y<|.buildSlice (.no Y) Y (els:=[[.v (.int .i64 (cmpI x.line y.line))],[.v (.int .i64 (cmpI x.pick y.pick))]]) t209 Y z3 Y Y Y Y Y Y Y Y (by simp [i3]) (.cons _ _ _ _ _ _ (.d _) (.cons _ _ _ _ _ _ (.d _) .nil)) Y Y Y ?_
  refine .call (.no Y) Y [[15]] [([15],(k2+1+1+1+1+1+1+1+1+1+1,k2+1+1+1+1+1+1+1+1+1+1,.row 3 1 ([[.v (.int .i64 (cmpI x.line y.line))],[.v (.int .i64 (cmpI x.pick y.pick))]])))] (c_Ori [cmpI x.line y.line,cmpI x.pick y.pick]) Y Y Y Y Y (.cons (Reads.ref (Frz.of_erase (erase_slo true 3 1 i64c i64c ([cmpI x.line y.line,cmpI x.pick y.pick]) i64c_e)) (.head _) (.head _)).gives .nil) Y Y (fun _=>(ownCons (Owned.v _) ownNil)) (.own [16,0] .nil) (.nil) Y Y Y (AllH.get (.r Y)) Y Y Y<|.assign (.no Y) Y Y Y Y ?_
  exact .fin () (.of (.r Y) .nil)
 intro _
 refine .ret ?_
 exact fin0 (.inr Y) (.one (svI (show (orL [cmpI x.line y.line,cmpI x.pick y.pick])=(entCmp x y) by exact orL_two _ _)) .nil) (.dd .nil) Y
theorem c_compareTokens (a:List Entry) (b:List Entry):Trip Tryz.prog 116 [(false,1),(false,1)] ([.sl false 115 2 (List.map Entry.c (a))]++[.sl false 115 2 (List.map Entry.c (b))]) [(false,1)] [.v (.int .i64 (tokCmp a b))] []:=by
 refine Trip.of Tryz.func116 (by decide) (c:=_) Y Y (Nat.le_of_ble_eq_true Y) Y (AftOk.nil _)<|.sl (t:=0) Y fun hs1l=>.sl (t:=1) Y fun hs2l=>.seq<|.rs fun k3=>.as Y<|.z<|.seq<|.rs fun k4=>?_
 refine .mv Y<|.g (fun _ τ=>⟨_,.len (.no Y) Y (z:=(a.length:Int)) t49 Y Y Y (.d _ _) (map_len _ _) Y τ⟩)<|.mv Y<|.g (fun _ τ=>⟨_,.len (.no Y) Y (z:=(b.length:Int)) t49 Y Y Y (.d _ _) (map_len _ _) Y τ⟩)<|.c0 (c_Comparei (a.length:Int) (b.length:Int)) Y (.dd (.dd .nil)) (.own [9,0] .nil) Y<|.mv Y<|.mv Y<|.c0 (c_CompareFunc a b 160 [] [] (fun x0 x1=>entCmp x0 x1) (fun x0 x1=>c_cmpTok1 x0 x1)) Y (.dd (.dd (.dd .nil))) (.own [12,0] .nil) Y<|.g (fun _ τ=>⟨_,.buildSlice (.no Y) Y (els:=[[.v (.int .i64 (cmpI (a.length:Int) (b.length:Int)))],[.v (.int .i64 (lexC (fun x0 x1=>entCmp x0 x1) a b))]]) t209 Y z3 Y Y Y Y Y Y Y Y (by simp [i3]) (.cons _ _ _ _ _ _ (.d _) (.cons _ _ _ _ _ _ (.d _) .nil)) Y Y Y τ⟩) ?_
 refine .g (fun _ τ=>⟨_,.call (.no Y) Y [[13]] [([13],(k4+1+1+1+1+1+1+1+1,k4+1+1+1+1+1+1+1+1,.row 3 1 ([[.v (.int .i64 (cmpI (a.length:Int) (b.length:Int)))],[.v (.int .i64 (lexC (fun x0 x1=>entCmp x0 x1) a b))]])))] (c_Ori [cmpI (a.length:Int) (b.length:Int),lexC (fun x0 x1=>entCmp x0 x1) a b]) Y Y Y Y Y (.cons (Reads.ref (Frz.of_erase (erase_slo true 3 1 i64c i64c ([cmpI (a.length:Int) (b.length:Int),lexC (fun x0 x1=>entCmp x0 x1) a b]) i64c_e)) (.head _) (.head _)).gives .nil) Y Y (fun _=>(ownCons (Owned.v _) ownNil)) (.own [14,0] .nil) (.nil) Y Y Y (AllH.get (.r Y)) Y Y Y τ⟩)<|.as Y<|.z<|.ret ?_
 exact fin0 (.inr Y) (.one (svI (show (orL [cmpI (a.length:Int) (b.length:Int),lexC (fun x0 x1=>entCmp x0 x1) a b])=(tokCmp a b) by exact orL_two _ _)) .nil) (.dd .nil) Y
theorem c_entryOk (e:Entry):Trip Tryz.prog 207 [(true,2)] (Entry.c e) [(false,1)] [.v (.bool (Entry.ok e))] []:=by
 refine Trip.of Tryz.func207 (by decide) (c:=_) Y Y (Nat.le_of_ble_eq_true Y) Y (AftOk.nil _)<|.seq<|.rs fun k1=>.g (fun _ τ=>⟨_,.box (.no Y) Y Y Y Y Y τ⟩)<|.as Y<|.z<|.seq ?_
 refine .reg (X:=Unit) (fun ζ=>.of [(2,.one (.d (.v (.bool ((inR e.line 0 29&&inR e.pick 0 4))))))] []) [⟨[1],some 3,[],[]⟩,⟨[3],some 4,[[1]],[]⟩,⟨[4],some 5,[],[]⟩,⟨[5],some 6,[],[]⟩,⟨[6,1],some 7,[],[]⟩,⟨[6,7],some 8,[[1]],[]⟩,⟨[6,8],some 9,[],[]⟩,⟨[6,9],some 10,[],[]⟩,⟨[10],some 2,[],[]⟩] (fun k2=>?_) ?_
 ·skip
  refine .fieldAddrP (.no Y) Y t115 Y Y t2 Y Y Y Y<|.load (.no Y) Y t2 Y Y (.ptr _ _ _ _ _ Y) Y Y Y Y<|.call (.no Y) Y [] [] (c_within e.line 0 29) Y Y Y Y Y (.dd (.dd (.dd .nil))) Y Y (fun h=>absurd Y h) (.own [5,0] .nil) (.nil) Y Y Y (by simp) Y Y Y<|.moveB (.no Y) Y Y Y Y fun b3 g1_3=>?_
  cases b3
  ·skip
   refine .off Y Y Y Y Y Y Y<|.off Y Y Y Y Y Y Y<|.off Y Y Y Y Y Y Y<|.pick (.no Y) Y Y Y Y Y<|.assign (.no Y) Y Y Y Y ?_
   exact .fin () (.of (.cons (svB (show (false)=((inR e.line 0 29&&inR e.pick 0 4)) by first | (simp only [g1_3,Bool.true_or,Bool.false_or,Bool.true_and,Bool.false_and,Bool.not_true,Bool.not_false]; done) | (simp [g1_3]; done) | (exfalso; simp_all; done))) .nil) .nil)
  ·skip
   refine .fieldAddrP (.on Y Y Y Y Y) Y t115 Y Y t2 Y Y Y Y<|.load (.on Y Y Y Y Y) Y t2 Y Y (.ptr _ _ _ _ _ Y) Y Y Y Y<|.call (.on Y Y Y Y Y) Y [] [] (c_within e.pick 0 4) Y Y Y Y Y (.dd (.dd (.dd .nil))) Y Y (fun h=>absurd Y h) (.own [9,0] .nil) (.nil) Y Y Y (by simp) Y Y Y<|.pick (.no Y) Y Y Y Y Y<|.assign (.no Y) Y Y Y Y ?_
   exact .fin () (.of (.cons (svB (show (inR e.pick 0 4)=((inR e.line 0 29&&inR e.pick 0 4)) by first | (simp only [g1_3,Bool.true_or,Bool.false_or,Bool.true_and,Bool.false_and,Bool.not_true,Bool.not_false]; done) | (simp [g1_3]; done) | (exfalso; simp_all; done))) .nil) .nil)
 intro _
 refine .ret ?_
 exact fin0 (.inr Y) (.one (svB (show ((inR e.line 0 29&&inR e.pick 0 4))=(Entry.ok e) by rfl)) .nil) (.dd .nil) Y
theorem c_IndexFuncY (l:List Entry) (F_p:FuncId) (first_p:List (Bool × List D)) (caps_p:List D) (p:Entry→Bool) (h_p:∀ (x0:Entry),FnTrip Tryz.prog F_p first_p caps_p [(true,2)] (Entry.c x0) [(false,1)] [.v (.bool (p x0))]):Trip Tryz.prog 229 [(false,1),(false,1)] ([.sl false 115 2 (List.map Entry.c (l))]++[.fn F_p first_p caps_p]) [(false,1)] [.v (.int .i64 (idx p l))] []:=by
 refine Trip.of Tryz.func229 (by decide) (c:=_) Y Y (Nat.le_of_ble_eq_true Y) Y (AftOk.nil _)<|.sl (t:=0) Y fun hs1l=>.seq<|.rs fun k2=>.as Y<|.z<|.seq<|.seq<|.rs fun k3=>?_
 refine .mv Y<|.g (fun _ τ=>⟨_,.len (.no Y) Y (z:=(l.length:Int)) t49 Y Y Y (.d _ _) (map_len _ _) Y τ⟩)<|.mv Y<|.z<|.block ?_
 refine .loop (X:=Nat) (fun ζ=>.of [(0,.one (.d (.sl false 115 2 (List.map Entry.c (l))))),(1,.one (.d (.fn F_p first_p caps_p))),(7,.one (.d (.v (.int .i64 ((l.length:Int)))))),(8,.one (.d (.v (.int .i64 ((ζ:Int))))))] []) (fun ζ=>ζ≤l.length∧allTo ζ (fun i=>!p (l.getD i default))=true) (fun ζ=>l.length - ζ) ?_ ?_
 ·skip
  exact .here 0 (.of (.cons Y (.cons Y (.cons Y (.cons (svI (show (0)=((0:Int)) by first | rfl | omega | exact wrap_le (by omega) (by omega) | (rw [wrap_le (by omega) (by omega)]; omega))) .nil)))) .nil) (show 0≤l.length∧allTo 0 (fun i=>!p (l.getD i default))=true by exact ⟨by omega,rfl⟩)
 ·rintro j hI
  have hI:j≤l.length∧allTo j (fun i=>!p (l.getD i default))=true:=hI
  refine .seq<|.rs fun k4=>.bi Y<|.z<|.seq ?_
  refine .cond (t:=decide ((j:Int) < (l.length:Int))) Y (fun c0=>?_) (fun c0=>?_)
  ·have c0:=of_decide_eq_true c0
   refine .skip<|.seq<|.block<|.seq<|.rs fun k5=>.mv Y<|.as Y<|.z<|.seq ?_
   refine .rs fun k6=>.mv Y<|.mv Y<|.mv Y<|.g (fun _ τ=>⟨_,.indexAddr (.no Y) Y (j) t49 Y t115 Y Y Y (.d _ _) Y Y Y (map_get (by omega)) Y Y τ⟩)<|.lda t115 Y (.d _) Y<|.g (fun _ τ=>⟨_,.callF (.no Y) Y (ds:=[.v (.int .i64 ((l.getD j default).line)),.v (.int .i64 ((l.getD j default).pick))]) (h_p (l.getD j default)) Y Y Y Y (.own [16,0] .nil) Y Y Y Y Y Y τ⟩)<|.z ?_
   refine .cond (t:=p (l.getD j default)) Y (fun c1=>?_) (fun c1=>?_)
   ·have c1:=c1
    refine .seq<|.rs fun k7=>.mv Y<|.as Y<|.z<|.ret ?_
    exact fin0 (.inr Y) (.one (svI (show ((j:Int))=(idx p l) by exact (idx_found (j:=j) (by omega) hI.2 (by simpa using c1)).symm)) .nil) (.dd .nil) Y
   ·have c1:=c1
    refine .skip<|.rs fun k9=>.bi Y<|.mv Y<|.z ?_
    exact .here (j+1) (.of (.cons Y (.cons Y (.cons Y (.cons (svI (show (IntKind.wrap .i64 ((j:Int)+1))=(((j+1):Int)) by first | rfl | omega | exact wrap_le (by omega) (by omega) | (rw [wrap_le (by omega) (by omega)]; omega))) .nil)))) .nil) ⟨(show (j+1)≤l.length∧allTo (j+1) (fun i=>!p (l.getD i default))=true by exact ⟨by omega,allTo_step hI.2 (by simpa using c1)⟩),(show l.length - (j+1) < l.length - j by omega)⟩
  ·have c0:=of_decide_eq_false c0
   refine .exit<|.seq<|.rs fun k10=>.as Y<|.z<|.ret ?_
   exact fin0 (.inr Y) (.one (svI (show (-1)=(idx p l) by exact (idx_none (by omega) hI.2).symm)) .nil) (.dd .nil) Y
theorem c_ContainsFuncY (l:List Entry) (F_p:FuncId) (first_p:List (Bool × List D)) (caps_p:List D) (p:Entry→Bool) (h_p:∀ (x0:Entry),FnTrip Tryz.prog F_p first_p caps_p [(true,2)] (Entry.c x0) [(false,1)] [.v (.bool (p x0))]):Trip Tryz.prog 223 [(false,1),(false,1)] ([.sl false 115 2 (List.map Entry.c (l))]++[.fn F_p first_p caps_p]) [(false,1)] [.v (.bool (l.any p))] []:=by
 refine Trip.of Tryz.func223 (by decide) (c:=_) Y Y (Nat.le_of_ble_eq_true Y) Y (AftOk.nil _)<|.sl (t:=0) Y fun hs1l=>.seq<|.rs fun k2=>.as Y<|.z<|.seq<|.rs fun k3=>.mv Y ?_
 refine .mv Y<|.c0 (c_IndexFuncY l F_p first_p caps_p p h_p) Y (.dd (.dd .nil)) (.own [7,0] .nil) Y<|.bi Y<|.as Y<|.z<|.ret ?_
 exact fin0 (.inr Y) (.one (svB (show (decide ((idx p l)≥0))=(l.any p) by exact idx_any _ _)) .nil) (.dd .nil) Y
theorem c_areAll1Y (x:Entry) (F_p:FuncId) (first_p:List (Bool × List D)) (caps_p:List D) (p:Entry→Bool) (h_p:∀ (x0:Entry),FnTrip Tryz.prog F_p first_p caps_p [(true,2)] (Entry.c x0) [(false,1)] [.v (.bool (p x0))]):Trip Tryz.prog 224 [(true,2),(false,1)] (Entry.c x++[.pt false [.fn F_p first_p caps_p]]) [(false,1)] [.v (.bool (!p x))] []:=by
 refine Trip.of Tryz.func224 (by decide) (c:=_) Y Y (Nat.le_of_ble_eq_true Y) Y (AftOk.nil _)<|.seq<|.rs fun k1=>.g (fun _ τ=>⟨_,.box (.no Y) Y Y Y Y Y τ⟩)<|.as Y<|.z<|.seq<|.rs fun k2=>.ld t217 Y (.d _) Y ?_
 refine .lda t115 Y (.ptr _ _ _ _ _ Y) Y<|.g (fun _ τ=>⟨_,.callF (.no Y) Y (ds:=[.v (.int .i64 (x.line)),.v (.int .i64 (x.pick))]) (h_p x) Y Y Y Y (.own [6,0] .nil) Y Y Y Y Y Y τ⟩)<|.un Y<|.as Y<|.z<|.ret ?_
 exact fin0 (.inr Y) (.one (svB (show (!(p x))=(!p x) by rfl)) .nil) (.dd .nil) Y
theorem c_areAllY (l:List Entry) (F_p:FuncId) (first_p:List (Bool × List D)) (caps_p:List D) (p:Entry→Bool) (h_p:∀ (x0:Entry),FnTrip Tryz.prog F_p first_p caps_p [(true,2)] (Entry.c x0) [(false,1)] [.v (.bool (p x0))]):Trip Tryz.prog 206 [(false,1),(false,1)] ([.sl false 115 2 (List.map Entry.c (l))]++[.fn F_p first_p caps_p]) [(false,1)] [.v (.bool (l.all p))] []:=by
 refine Trip.of Tryz.func206 (by decide) (c:=_) Y Y (Nat.le_of_ble_eq_true Y) Y (AftOk.nil _)<|.sl (t:=0) Y fun hs1l=>.seq<|.rs fun k2=>.g (fun _ τ=>⟨_,.box (.no Y) Y Y Y Y Y τ⟩)<|.as Y<|.z<|.seq<|.rs fun k3=>?_
 refine .mv Y<|.g (fun _ τ=>⟨_,.makeFunc (.no Y) Y Y Y Y Y τ⟩)<|.g (fun _ τ=>⟨_,.call (.no Y) Y [[3]] [([3],(k2,k2,.box [.d (.fn F_p first_p caps_p)]))] (c_ContainsFuncY l 224 [] [.pt false [.fn F_p first_p caps_p]] (fun x0=>!p x0) (fun x0=>c_areAll1Y x0 F_p first_p caps_p p h_p)) Y Y Y Y Y (.dd (.cons (Reads.clo0 (.cons (Reads.ptr0 (.head _) (.head _) (.cons (Reads.d _) .nil)) .nil)).gives .nil)) Y Y (fun _=>(ownCons (Owned.v _) ownNil)) (.own [7,0] .nil) (.nil) Y Y Y (AllH.get (.r Y)) Y Y Y τ⟩)<|.un Y<|.as Y<|.z<|.ret ?_
 exact fin0 (.inr Y) (.one (svB (show (!(l.any (fun x0=>!p x0)))=(l.all p) by exact not_any _ _)) .nil) (.dd .nil) Y
theorem c_TokenOk (t:List Entry):Trip Tryz.prog 178 [(false,1)] ([.sl false 115 2 (List.map Entry.c (t))]) [(false,1)] [.v (.bool (tokOk t))] []:=by
 refine Trip.of Tryz.func178 (by decide) (c:=_) Y Y (Nat.le_of_ble_eq_true Y) Y (AftOk.nil _)<|.sl (t:=0) Y fun hs1l=>.seq<|.rs fun k2=>.as Y<|.z<|.seq ?_
 refine .reg (X:=Unit) (fun ζ=>.of [(2,.one (.d (.v (.bool ((decide ((t.length:Int)≤3)&&t.all (fun x0=>Entry.ok x0)))))))] []) [⟨[0],some 3,[],[]⟩,⟨[3],some 4,[],[]⟩,⟨[4],some 5,[],[]⟩,⟨[5],some 6,[],[]⟩,⟨[6,0],some 7,[],[]⟩,⟨[6,7],some 8,[],[]⟩,⟨[6,8],some 9,[],[]⟩,⟨[9],some 2,[],[]⟩] (fun k3=>?_) ?_
 ·skip
  refine .move (.no Y) Y Y Y Y<|.len (.no Y) Y (z:=(t.length:Int)) t49 Y Y Y (.d _ _) (map_len _ _) Y<|.bin (.no Y) Y Y Y Y Y Y<|.moveB (.no Y) Y Y Y Y fun b4 g1_3=>?_
  cases b4
  ·skip
   refine .off Y Y Y Y Y Y Y<|.off Y Y Y Y Y Y Y<|.pick (.no Y) Y Y Y Y Y<|.assign (.no Y) Y Y Y Y ?_
   exact .fin () (.of (.cons (svB (show (false)=((decide ((t.length:Int)≤3)&&t.all (fun x0=>Entry.ok x0))) by first | (simp only [g1_3,Bool.true_or,Bool.false_or,Bool.true_and,Bool.false_and,Bool.not_true,Bool.not_false]; done) | (simp [g1_3]; done) | (exfalso; simp_all; done))) .nil) .nil)
  ·skip
   refine .move (.on Y Y Y Y Y) Y Y Y Y<|.call (.on Y Y Y Y Y) Y [] [] (c_areAllY t 207 [] [] (fun x0=>Entry.ok x0) (fun x0=>c_entryOk x0)) Y Y Y Y Y (.dd (.dd .nil)) Y Y (fun h=>absurd Y h) (.own [8,0] .nil) (.nil) Y Y Y (by simp) Y Y Y<|.pick (.no Y) Y Y Y Y Y<|.assign (.no Y) Y Y Y Y ?_
   exact .fin () (.of (.cons (svB (show (t.all (fun x0=>Entry.ok x0))=((decide ((t.length:Int)≤3)&&t.all (fun x0=>Entry.ok x0))) by first | (simp only [g1_3,Bool.true_or,Bool.false_or,Bool.true_and,Bool.false_and,Bool.not_true,Bool.not_false]; done) | (simp [g1_3]; done) | (exfalso; simp_all; done))) .nil) .nil)
 intro _
 refine .ret ?_
 exact fin0 (.inr Y) (.one (svB (show ((decide ((t.length:Int)≤3)&&t.all (fun x0=>Entry.ok x0)))=(tokOk t) by (unfold tokOk; rw [show decide ((t.length:Int)≤3)=decide (t.length≤3) from decide_eq_decide.2 (by omega)]))) .nil) (.dd .nil) Y
end Go.Proofs

namespace Go.Proofs
open Go Go.Proofs Go.Ev

def Part.c62 (x:Part):List D:=[.sl false 115 2 (List.map Entry.c (x.token)),.sl false 98 3 (List.map Env.c98 (x.table))]
theorem Part.c62_e (x:Part):(Part.c62 x).map D.erase=Part.c62 x:=by simp [Part.c62,D.erase_v,erase_slo _ _ _ _ _ _ Entry.c_e,erase_slo _ _ _ _ _ _ Env.c98_e]
def Part.co62 (x:Part):List D:=[.sl true 115 2 (List.map Entry.c (x.token)),.sl true 98 3 (List.map Env.co98 (x.table))]
theorem Part.co62_e (x:Part):(Part.co62 x).map D.erase=Part.c62 x:=by simp [Part.co62,Part.c62,D.erase_v,erase_slo _ _ _ _ _ _ Entry.c_e,erase_slo _ _ _ _ _ _ Env.co98_e]
theorem Part.co62_o (x:Part):∀ d∈Part.co62 x,Owned d:=by simp [Part.co62,Owned.v,Owned.map _ _ _ _ Entry.c_o,Owned.map _ _ _ _ Env.co98_o]
def i29:TI:=⟨.sl 62,1,24,[.slice none 0 0]⟩
theorem t29:TyOk Tryz.prog 29 i29:=⟨Tryz.underlying29,by kernel_rfl⟩
theorem z29:ZOk Tryz.prog 29 i29:=⟨t29,rfl⟩
def i62:TI:=⟨.st [(0,49),(1,60)],2,48,[.slice none 0 0,.slice none 0 0]⟩
theorem t62:TyOk Tryz.prog 62 i62:=⟨⟨_,Tryz.underlying62,rfl⟩,by kernel_rfl⟩
theorem z62:ZOk Tryz.prog 62 i62:=⟨t62,rfl⟩
theorem p62:Places Tryz.prog [(0,49),(1,60)] [(0,1),(1,1)]:=by unfold Places; kernel_rfl
def i164:TI:=⟨.fn,1,8,[.nilFunc]⟩
theorem t164:TyOk Tryz.prog 164 i164:=⟨⟨_,_,_,Tryz.underlying164⟩,by kernel_rfl⟩
theorem z164:ZOk Tryz.prog 164 i164:=⟨t164,rfl⟩
theorem c_sPartsOk (d:Decl) (l:List Part) (hs:∀ x∈Decl.names d,x.size≤9223372036854775807) (hd:d.vars.length≤1048576∧d.flags.length≤1048576∧d.arrays.length≤1048576) (hp:SmallP l):Trip Tryz.prog 27 [(true,3),(false,1)] (Decl.c33 d++[.sl false 62 2 (List.map Part.c62 (l))]) [(false,1)] [.v (.bool (Parts.ok d l))] []:=by
 refine Trip.of Tryz.func27 (by decide) (c:=_) Y Y (Nat.le_of_ble_eq_true Y) Y (AftOk.nil _)<|.sla (t:=0) 0 Y Y fun hs1l=>.sla (t:=0) 1 Y Y fun hs2l=>.sla (t:=0) 2 Y Y fun hs3l=>.sl (t:=1) Y fun hs4l=>.seq<|.rs fun k5=>.g (fun _ τ=>⟨_,.box (.no Y) Y Y Y Y Y τ⟩)<|.as Y ?_
 refine .z<|.seq<|.seq ?_
 refine .reg (X:=Unit) (fun ζ=>.of [(1,.one (.d (.sl false 62 2 (List.map Part.c62 (l))))),(2,.one (.ptr [2] (k5) 0)),(13,.one (.d (.v (.bool ((!(Decl.ok d)||decide ((l.length:Int) > 100)))))))] [([2],(k5,k5,.box [.d (.sl false 9 1 (List.map strc (d.vars))),.d (.sl false 9 1 (List.map strc (d.flags))),.d (.sl false 112 2 (List.map Arr.c (d.arrays)))]))]) [⟨[2],some 6,[[2]],[]⟩,⟨[6],some 7,[],[]⟩,⟨[7],some 8,[],[]⟩,⟨[8],some 9,[],[]⟩,⟨[9,1],some 10,[],[]⟩,⟨[9,10],some 11,[],[]⟩,⟨[9,11],some 12,[],[]⟩,⟨[9,12],some 13,[],[]⟩] (fun k6=>?_) ?_
 ·skip
  refine .load (.no Y) Y t33 Y Y (.ptr _ _ _ _ _ Y) Y Y Y Y<|.call (.no Y) Y [] [] (c_sDeclOk d (by first | assumption | exact (hp.2 _ (getD_mem (by omega))).2.2 | (simpa using g6_7) | (have h9:=of_decide_eq_true g6_10; exact Part.ok_tok (allTo_iff.1 hI.2.1 (j - 1) (by omega)))) (by first | assumption | exact (hp.2 _ (getD_mem (by omega))).2.2 | (simpa using g6_7) | (have h9:=of_decide_eq_true g6_10; exact Part.ok_tok (allTo_iff.1 hI.2.1 (j - 1) (by omega))))) Y Y Y Y Y (.dd (.dd (.dd .nil))) Y Y (fun h=>absurd Y h) (.own [7,0] .nil) (.nil) Y Y Y (by simp) Y Y Y<|.un (.no Y) Y Y Y Y Y<|.moveB (.no Y) Y Y Y Y fun b7 g1_3=>?_
  cases b7
  ·skip
   refine .move (.on Y Y Y Y Y) Y Y Y Y<|.len (.on Y Y Y Y Y) Y (z:=(l.length:Int)) t29 Y Y Y (.d _ _) (map_len _ _) Y<|.bin (.on Y Y Y Y Y) Y Y Y Y Y Y<|.pick (.no Y) Y Y Y Y Y ?_
   exact .fin () (.of (.cons Y (.cons Y (.cons (svB (show (decide ((l.length:Int) > 100))=((!(Decl.ok d)||decide ((l.length:Int) > 100))) by first | (simp only [g1_3,Bool.true_or,Bool.false_or,Bool.true_and,Bool.false_and,Bool.not_true,Bool.not_false]; done) | (simp [g1_3]; done) | (exfalso; simp_all; done))) .nil))) (.r Y))
  ·skip
   refine .off Y Y Y Y Y Y Y<|.off Y Y Y Y Y Y Y<|.off Y Y Y Y Y Y Y<|.pick (.no Y) Y Y Y Y Y ?_
   exact .fin () (.of (.cons Y (.cons Y (.cons (svB (show (true)=((!(Decl.ok d)||decide ((l.length:Int) > 100))) by first | (simp only [g1_3,Bool.true_or,Bool.false_or,Bool.true_and,Bool.false_and,Bool.not_true,Bool.not_false]; done) | (simp [g1_3]; done) | (exfalso; simp_all; done))) .nil))) (.r Y))
 intro _
 refine .cond (t:=(!(Decl.ok d)||decide ((l.length:Int) > 100))) Y (fun c0=>?_) (fun c0=>?_)
 ·have c0:=(oT (nT id) dT) c0
  refine .seq<|.rs fun k8=>.as Y<|.z<|.ret ?_
  exact fin0 (.inr Y) (.one (svB (show (false)=(Parts.ok d l) by (rw [Parts.ok_no c0]))) .nil) (.dd .nil) Y
 ·have c0:=(oF (nF id) dF) c0
  refine .skip<|.seq<|.seq<|.rs fun k10=>.as Y<|.z<|.block ?_
  refine .loop (X:=Nat) (fun ζ=>.of [(1,.one (.d (.sl false 62 2 (List.map Part.c62 (l))))),(2,.one (.ptr [2] (k5) 0)),(5,.one (.d (.v (.int .i64 ((ζ:Int))))))] [([2],(k5,k5,.box [.d (.sl false 9 1 (List.map strc (d.vars))),.d (.sl false 9 1 (List.map strc (d.flags))),.d (.sl false 112 2 (List.map Arr.c (d.arrays)))]))]) (fun ζ=>ζ≤l.length∧allTo ζ (fun i=>Part.ok d (l.getD i default))=true∧risesTo l ζ=true) (fun ζ=>l.length - ζ) ?_ ?_
  ·skip
   exact .here 0 (.of (.cons Y (.cons Y (.cons (svI (show (0)=((0:Int)) by first | rfl | omega | exact wrap_le (by omega) (by omega) | (rw [wrap_le (by omega) (by omega)]; omega))) .nil))) (.r Y)) (show 0≤l.length∧allTo 0 (fun i=>Part.ok d (l.getD i default))=true∧risesTo l 0=true by exact ⟨by omega,rfl,rfl⟩)
  ·rintro j hI
   have hI:j≤l.length∧allTo j (fun i=>Part.ok d (l.getD i default))=true∧risesTo l j=true:=hI
   refine .seq<|.seq<|.rs fun k11=>.mv Y<|.mv Y<|.g (fun _ τ=>⟨_,.len (.no Y) Y (z:=(l.length:Int)) t29 Y Y Y (.d _ _) (map_len _ _) Y τ⟩)<|.bi Y<|.z ?_
   refine .cond (t:=decide ((j:Int) < (l.length:Int))) Y (fun c1=>?_) (fun c1=>?_)
   ·have c1:=of_decide_eq_true c1
    refine .skip<|.seq<|.block<|.seq ?_
    refine .regD (X:=Unit) (by kernel_rfl) (fun ζ=>.of [(1,.one (.d (.sl false 62 2 (List.map Part.c62 (l))))),(2,.one (.ptr [2] (k5) 0)),(5,.one (.d (.v (.int .i64 ((j:Int)))))),(64,.one (.d (.v (.bool ((((!(tokOk ((l.getD j default).token))||(decide ((j:Int) > 0)&&decide ((tokCmp ((l.getD (j - 1) default).token) ((l.getD j default).token))≥0)))||!(Table.ok d ((l.getD j default).table)))||!(((l.getD j default).table).any Env.live)))))))] [([2],(k5,k5,.box [.d (.sl false 9 1 (List.map strc (d.vars))),.d (.sl false 9 1 (List.map strc (d.flags))),.d (.sl false 112 2 (List.map Arr.c (d.arrays)))]))]) [⟨[1],some 20,[],[]⟩,⟨[5],some 21,[],[]⟩,⟨[20,21],some 22,[],[]⟩,⟨[22],some 23,[],[]⟩,⟨[23],some 24,[],[]⟩,⟨[24],some 25,[],[]⟩,⟨[25],some 26,[],[]⟩,⟨[26],some 27,[],[]⟩,⟨[27,5],some 28,[],[]⟩,⟨[27,28],some 29,[],[]⟩,⟨[27,29],some 30,[],[]⟩,⟨[30,1],some 31,[],[]⟩,⟨[30,5],some 32,[],[]⟩,⟨[30,32],some 33,[],[]⟩,⟨[30,31,33],some 34,[],[]⟩,⟨[30,34],some 35,[],[]⟩,⟨[30,35],some 36,[],[]⟩,⟨[30,1],some 37,[],[]⟩,⟨[30,5],some 38,[],[]⟩,⟨[30,37,38],some 39,[],[]⟩,⟨[30,39],some 40,[],[]⟩,⟨[30,40],some 41,[],[]⟩,⟨[30,36,41],some 42,[],[]⟩,⟨[30,42],some 43,[],[]⟩,⟨[27,30,43],some 44,[],[]⟩,⟨[27,44],some 45,[],[]⟩,⟨[45],some 46,[],[]⟩,⟨[46,2],some 47,[[2]],[]⟩,⟨[46,1],some 48,[],[]⟩,⟨[46,5],some 49,[],[]⟩,⟨[46,48,49],some 50,[],[]⟩,⟨[46,50],some 51,[],[]⟩,⟨[46,51],some 52,[],[]⟩,⟨[46,47,52],some 53,[],[]⟩,⟨[46,53],some 54,[],[]⟩,⟨[46,54],some 55,[],[]⟩,⟨[55],some 56,[],[]⟩,⟨[56,1],some 57,[],[]⟩,⟨[56,5],some 58,[],[]⟩,⟨[56,57,58],some 59,[],[]⟩,⟨[56,59],some 60,[],[]⟩,⟨[56,60],some 61,[],[]⟩,⟨[56,61],some 62,[],[]⟩,⟨[56,62],some 63,[],[]⟩,⟨[56,63],some 64,[],[]⟩] (by kernel_rfl) (fun k12=>?_) ?_
    ·skip
     refine .move (.no Y) Y Y Y Y<|.move (.no Y) Y Y Y Y<|.indexAddr (.no Y) Y (j) t29 Y t62 Y Y Y (.d _ _) Y Y Y (map_get (by omega)) Y Y<|.fieldAddr (.no Y) Y t62 Y Y t49 Y Y Y Y [] (by simp) (by intro _ _ _ h; cases h) Y Y<|.load (.no Y) Y t49 Y Y (.d _) Y Y Y Y<|.call (.no Y) Y [] [] (c_sTokenOk ((l.getD j default).token)) Y Y Y Y Y (.dd .nil) Y Y (fun h=>absurd Y h) (.own [25,0] .nil) (.nil) Y Y Y (by simp) Y Y Y<|.un (.no Y) Y Y Y Y Y<|.moveB (.no Y) Y Y Y Y fun b13 g6_7=>?_
     cases b13
     ·skip
      refine .move (.on Y Y Y Y Y) Y Y Y Y<|.bin (.on Y Y Y Y Y) Y Y Y Y Y Y<|.moveB (.on Y Y Y Y Y) Y Y Y Y fun b14 g6_10=>?_
      cases b14
      ·skip
       refine .off Y Y Y Y Y Y Y<|.off Y Y Y Y Y Y Y<|.off Y Y Y Y Y Y Y<|.off Y Y Y Y Y Y Y<|.off Y Y Y Y Y Y Y<|.off Y Y Y Y Y Y Y<|.off Y Y Y Y Y Y Y<|.off Y Y Y Y Y Y Y<|.off Y Y Y Y Y Y Y ?_
       refine .off Y Y Y Y Y Y Y<|.off Y Y Y Y Y Y Y<|.off Y Y Y Y Y Y Y<|.off Y Y Y Y Y Y Y<|.pick (.on Y Y Y Y Y) Y Y Y Y Y<|.pick (.no Y) Y Y Y Y Y<|.move (.no Y) Y Y Y Y<|.load (.on Y Y Y Y Y) Y t33 Y Y (.ptr _ _ _ _ _ Y) Y Y Y Y<|.move (.on Y Y Y Y Y) Y Y Y Y ?_
       refine .move (.on Y Y Y Y Y) Y Y Y Y<|.indexAddr (.on Y Y Y Y Y) Y (j) t29 Y t62 Y Y Y (.d _ _) Y Y Y (map_get (by omega)) Y Y<|.fieldAddr (.on Y Y Y Y Y) Y t62 Y Y t60 Y Y Y Y [] (by simp) (by intro _ _ _ h; cases h) Y Y<|.load (.on Y Y Y Y Y) Y t60 Y Y (.d _) Y Y Y Y ?_
       refine .call (.on Y Y Y Y Y) Y [] [] (c_sTableOk d ((l.getD j default).table) (by first | assumption | exact (hp.2 _ (getD_mem (by omega))).2.2 | (simpa using g6_7) | (have h9:=of_decide_eq_true g6_10; exact Part.ok_tok (allTo_iff.1 hI.2.1 (j - 1) (by omega)))) (by first | assumption | exact (hp.2 _ (getD_mem (by omega))).2.2 | (simpa using g6_7) | (have h9:=of_decide_eq_true g6_10; exact Part.ok_tok (allTo_iff.1 hI.2.1 (j - 1) (by omega)))) (by first | assumption | exact (hp.2 _ (getD_mem (by omega))).2.2 | (simpa using g6_7) | (have h9:=of_decide_eq_true g6_10; exact Part.ok_tok (allTo_iff.1 hI.2.1 (j - 1) (by omega))))) Y Y Y Y Y (.dd (.dd (.dd (.dd .nil)))) Y Y (fun h=>absurd Y h) (.own [53,0] .nil) (.nil) Y Y Y (by simp) Y Y Y<|.un (.on Y Y Y Y Y) Y Y Y Y Y ?_
       refine .pick (.no Y) Y Y Y Y Y<|.moveB (.no Y) Y Y Y Y fun b15 g6_36=>?_
       cases b15
       ·skip
        refine .move (.on Y Y Y Y Y) Y Y Y Y<|.move (.on Y Y Y Y Y) Y Y Y Y<|.indexAddr (.on Y Y Y Y Y) Y (j) t29 Y t62 Y Y Y (.d _ _) Y Y Y (map_get (by omega)) Y Y<|.fieldAddr (.on Y Y Y Y Y) Y t62 Y Y t60 Y Y Y Y [] (by simp) (by intro _ _ _ h; cases h) Y Y<|.load (.on Y Y Y Y Y) Y t60 Y Y (.d _) Y Y Y Y<|.call (.on Y Y Y Y Y) Y [] [] (c_l9Live ((l.getD j default).table)) Y Y Y Y Y (.dd .nil) Y Y (fun h=>absurd Y h) (.own [62,0] .nil) (.nil) Y Y Y (by simp) Y Y Y<|.un (.on Y Y Y Y Y) Y Y Y Y Y<|.pick (.no Y) Y Y Y Y Y ?_
        exact .fin () (.of (.cons Y (.cons Y (.cons Y (.cons (svB (show (!(((l.getD j default).table).any Env.live))=((((!(tokOk ((l.getD j default).token))||(decide ((j:Int) > 0)&&decide ((tokCmp ((l.getD (j - 1) default).token) ((l.getD j default).token))≥0)))||!(Table.ok d ((l.getD j default).table)))||!(((l.getD j default).table).any Env.live))) by first | (simp only [g6_7,g6_10,g6_36,Bool.true_or,Bool.false_or,Bool.true_and,Bool.false_and,Bool.not_true,Bool.not_false]; done) | (simp [g6_7,g6_10,g6_36]; done) | (exfalso; simp_all; done))) .nil)))) (.r Y))
       ·skip
        refine .off Y Y Y Y Y Y Y<|.off Y Y Y Y Y Y Y<|.off Y Y Y Y Y Y Y<|.off Y Y Y Y Y Y Y<|.off Y Y Y Y Y Y Y<|.off Y Y Y Y Y Y Y<|.off Y Y Y Y Y Y Y<|.pick (.no Y) Y Y Y Y Y ?_
        exact .fin () (.of (.cons Y (.cons Y (.cons Y (.cons (svB (show (true)=((((!(tokOk ((l.getD j default).token))||(decide ((j:Int) > 0)&&decide ((tokCmp ((l.getD (j - 1) default).token) ((l.getD j default).token))≥0)))||!(Table.ok d ((l.getD j default).table)))||!(((l.getD j default).table).any Env.live))) by first | (simp only [g6_7,g6_10,g6_36,Bool.true_or,Bool.false_or,Bool.true_and,Bool.false_and,Bool.not_true,Bool.not_false]; done) | (simp [g6_7,g6_10,g6_36]; done) | (exfalso; simp_all; done))) .nil)))) (.r Y))
      ·skip
       refine .move (.on Y Y Y Y Y) Y Y Y Y<|.move (.on Y Y Y Y Y) Y Y Y Y<|.bin (.on Y Y Y Y Y) Y Y Y Y Y Y<|.indexAddr (.on Y Y Y Y Y) Y ((j - 1)) t29 Y t62 Y Y Y (.d _ _) Y Y (by (have h9:=of_decide_eq_true g6_10; rw [wrap_le (by omega) (by omega)]; omega)) (map_get (by omega)) Y Y<|.fieldAddr (.on Y Y Y Y Y) Y t62 Y Y t49 Y Y Y Y [] (by simp) (by intro _ _ _ h; cases h) Y Y<|.load (.on Y Y Y Y Y) Y t49 Y Y (.d _) Y Y Y Y<|.move (.on Y Y Y Y Y) Y Y Y Y<|.move (.on Y Y Y Y Y) Y Y Y Y<|.indexAddr (.on Y Y Y Y Y) Y (j) t29 Y t62 Y Y Y (.d _ _) Y Y Y (map_get (by omega)) Y Y ?_
       refine .fieldAddr (.on Y Y Y Y Y) Y t62 Y Y t49 Y Y Y Y [] (by simp) (by intro _ _ _ h; cases h) Y Y<|.load (.on Y Y Y Y Y) Y t49 Y Y (.d _) Y Y Y Y<|.call (.on Y Y Y Y Y) Y [] [] (c_l9Cmp ((l.getD (j - 1) default).token) ((l.getD j default).token) (by first | assumption | exact (hp.2 _ (getD_mem (by omega))).2.2 | (simpa using g6_7) | (have h9:=of_decide_eq_true g6_10; exact Part.ok_tok (allTo_iff.1 hI.2.1 (j - 1) (by omega)))) (by first | assumption | exact (hp.2 _ (getD_mem (by omega))).2.2 | (simpa using g6_7) | (have h9:=of_decide_eq_true g6_10; exact Part.ok_tok (allTo_iff.1 hI.2.1 (j - 1) (by omega))))) Y Y Y Y Y (.dd (.dd .nil)) Y Y (fun h=>absurd Y h) (.own [42,0] .nil) (.nil) Y Y Y (by simp) Y Y Y ?_
       refine .bin (.on Y Y Y Y Y) Y Y Y Y Y Y<|.pick (.on Y Y Y Y Y) Y Y Y Y Y<|.pick (.no Y) Y Y Y Y Y<|.moveB (.no Y) Y Y Y Y fun b16 g6_26=>?_
       cases b16
       ·skip
        refine .load (.on Y Y Y Y Y) Y t33 Y Y (.ptr _ _ _ _ _ Y) Y Y Y Y<|.move (.on Y Y Y Y Y) Y Y Y Y<|.move (.on Y Y Y Y Y) Y Y Y Y<|.indexAddr (.on Y Y Y Y Y) Y (j) t29 Y t62 Y Y Y (.d _ _) Y Y Y (map_get (by omega)) Y Y<|.fieldAddr (.on Y Y Y Y Y) Y t62 Y Y t60 Y Y Y Y [] (by simp) (by intro _ _ _ h; cases h) Y Y<|.load (.on Y Y Y Y Y) Y t60 Y Y (.d _) Y Y Y Y ?_
        refine .call (.on Y Y Y Y Y) Y [] [] (c_sTableOk d ((l.getD j default).table) (by first | assumption | exact (hp.2 _ (getD_mem (by omega))).2.2 | (simpa using g6_7) | (have h9:=of_decide_eq_true g6_10; exact Part.ok_tok (allTo_iff.1 hI.2.1 (j - 1) (by omega)))) (by first | assumption | exact (hp.2 _ (getD_mem (by omega))).2.2 | (simpa using g6_7) | (have h9:=of_decide_eq_true g6_10; exact Part.ok_tok (allTo_iff.1 hI.2.1 (j - 1) (by omega)))) (by first | assumption | exact (hp.2 _ (getD_mem (by omega))).2.2 | (simpa using g6_7) | (have h9:=of_decide_eq_true g6_10; exact Part.ok_tok (allTo_iff.1 hI.2.1 (j - 1) (by omega))))) Y Y Y Y Y (.dd (.dd (.dd (.dd .nil)))) Y Y (fun h=>absurd Y h) (.own [53,0] .nil) (.nil) Y Y Y (by simp) Y Y Y<|.un (.on Y Y Y Y Y) Y Y Y Y Y ?_
        refine .pick (.no Y) Y Y Y Y Y<|.moveB (.no Y) Y Y Y Y fun b17 g6_36=>?_
        cases b17
        ·skip
         refine .move (.on Y Y Y Y Y) Y Y Y Y<|.move (.on Y Y Y Y Y) Y Y Y Y<|.indexAddr (.on Y Y Y Y Y) Y (j) t29 Y t62 Y Y Y (.d _ _) Y Y Y (map_get (by omega)) Y Y<|.fieldAddr (.on Y Y Y Y Y) Y t62 Y Y t60 Y Y Y Y [] (by simp) (by intro _ _ _ h; cases h) Y Y<|.load (.on Y Y Y Y Y) Y t60 Y Y (.d _) Y Y Y Y<|.call (.on Y Y Y Y Y) Y [] [] (c_l9Live ((l.getD j default).table)) Y Y Y Y Y (.dd .nil) Y Y (fun h=>absurd Y h) (.own [62,0] .nil) (.nil) Y Y Y (by simp) Y Y Y<|.un (.on Y Y Y Y Y) Y Y Y Y Y<|.pick (.no Y) Y Y Y Y Y ?_
         exact .fin () (.of (.cons Y (.cons Y (.cons Y (.cons (svB (show (!(((l.getD j default).table).any Env.live))=((((!(tokOk ((l.getD j default).token))||(decide ((j:Int) > 0)&&decide ((tokCmp ((l.getD (j - 1) default).token) ((l.getD j default).token))≥0)))||!(Table.ok d ((l.getD j default).table)))||!(((l.getD j default).table).any Env.live))) by first | (simp only [g6_7,g6_10,g6_26,g6_36,Bool.true_or,Bool.false_or,Bool.true_and,Bool.false_and,Bool.not_true,Bool.not_false]; done) | (simp [g6_7,g6_10,g6_26,g6_36]; done) | (exfalso; simp_all; done))) .nil)))) (.r Y))
        ·skip
         refine .off Y Y Y Y Y Y Y<|.off Y Y Y Y Y Y Y<|.off Y Y Y Y Y Y Y<|.off Y Y Y Y Y Y Y<|.off Y Y Y Y Y Y Y<|.off Y Y Y Y Y Y Y<|.off Y Y Y Y Y Y Y<|.pick (.no Y) Y Y Y Y Y ?_
         exact .fin () (.of (.cons Y (.cons Y (.cons Y (.cons (svB (show (true)=((((!(tokOk ((l.getD j default).token))||(decide ((j:Int) > 0)&&decide ((tokCmp ((l.getD (j - 1) default).token) ((l.getD j default).token))≥0)))||!(Table.ok d ((l.getD j default).table)))||!(((l.getD j default).table).any Env.live))) by first | (simp only [g6_7,g6_10,g6_26,g6_36,Bool.true_or,Bool.false_or,Bool.true_and,Bool.false_and,Bool.not_true,Bool.not_false]; done) | (simp [g6_7,g6_10,g6_26,g6_36]; done) | (exfalso; simp_all; done))) .nil)))) (.r Y))
       ·skip
        refine .off Y Y Y Y Y Y Y<|.off Y Y Y Y Y Y Y<|.off Y Y Y Y Y Y Y<|.off Y Y Y Y Y Y Y<|.off Y Y Y Y Y Y Y<|.off Y Y Y Y Y Y Y<|.off Y Y Y Y Y Y Y<|.off Y Y Y Y Y Y Y<|.pick (.no Y) Y Y Y Y Y ?_
        refine .move (.no Y) Y Y Y Y<|.off Y Y Y Y Y Y Y<|.off Y Y Y Y Y Y Y<|.off Y Y Y Y Y Y Y<|.off Y Y Y Y Y Y Y<|.off Y Y Y Y Y Y Y<|.off Y Y Y Y Y Y Y<|.off Y Y Y Y Y Y Y<|.pick (.no Y) Y Y Y Y Y ?_
        exact .fin () (.of (.cons Y (.cons Y (.cons Y (.cons (svB (show (true)=((((!(tokOk ((l.getD j default).token))||(decide ((j:Int) > 0)&&decide ((tokCmp ((l.getD (j - 1) default).token) ((l.getD j default).token))≥0)))||!(Table.ok d ((l.getD j default).table)))||!(((l.getD j default).table).any Env.live))) by first | (simp only [g6_7,g6_10,g6_26,Bool.true_or,Bool.false_or,Bool.true_and,Bool.false_and,Bool.not_true,Bool.not_false]; done) | (simp [g6_7,g6_10,g6_26]; done) | (exfalso; simp_all; done))) .nil)))) (.r Y))
     ·skip
      refine .off Y Y Y Y Y Y Y<|.off Y Y Y Y Y Y Y<|.off Y Y Y Y Y Y Y<|.off' rfl Y Y Y Y Y<|.off' rfl Y Y Y Y Y<|.off' rfl Y Y Y Y Y<|.off' rfl Y Y Y Y Y<|.off' rfl Y Y Y Y Y<|.off' rfl Y Y Y Y Y ?_
      refine .off' rfl Y Y Y Y Y<|.off' rfl Y Y Y Y Y<|.off' rfl Y Y Y Y Y<|.off' rfl Y Y Y Y Y<|.off' rfl Y Y Y Y Y<|.off' rfl Y Y Y Y Y<|.off' rfl Y Y Y Y Y<|.off Y Y Y Y Y Y Y<|.pick (.no Y) Y Y Y Y Y ?_
      refine .move (.no Y) Y Y Y Y<|.off Y Y Y Y Y Y Y<|.off Y Y Y Y Y Y Y<|.off Y Y Y Y Y Y Y<|.off Y Y Y Y Y Y Y<|.off Y Y Y Y Y Y Y<|.off Y Y Y Y Y Y Y<|.off Y Y Y Y Y Y Y<|.off Y Y Y Y Y Y Y ?_
      refine .pick (.no Y) Y Y Y Y Y<|.move (.no Y) Y Y Y Y<|.off Y Y Y Y Y Y Y<|.off Y Y Y Y Y Y Y<|.off Y Y Y Y Y Y Y<|.off Y Y Y Y Y Y Y<|.off Y Y Y Y Y Y Y<|.off Y Y Y Y Y Y Y<|.off Y Y Y Y Y Y Y ?_
      refine .pick (.no Y) Y Y Y Y Y ?_
      exact .fin () (.of (.cons Y (.cons Y (.cons Y (.cons (svB (show (true)=((((!(tokOk ((l.getD j default).token))||(decide ((j:Int) > 0)&&decide ((tokCmp ((l.getD (j - 1) default).token) ((l.getD j default).token))≥0)))||!(Table.ok d ((l.getD j default).table)))||!(((l.getD j default).table).any Env.live))) by first | (simp only [g6_7,Bool.true_or,Bool.false_or,Bool.true_and,Bool.false_and,Bool.not_true,Bool.not_false]; done) | (simp [g6_7]; done) | (exfalso; simp_all; done))) .nil)))) (.r Y))
    intro _
    refine .cond (t:=(((!(tokOk ((l.getD j default).token))||(decide ((j:Int) > 0)&&decide ((tokCmp ((l.getD (j - 1) default).token) ((l.getD j default).token))≥0)))||!(Table.ok d ((l.getD j default).table)))||!(((l.getD j default).table).any Env.live))) Y (fun c2=>?_) (fun c2=>?_)
    ·have c2:=(oT (oT (oT (nT id) (aT dT dT)) (nT id)) (nT id)) c2
     refine .seq<|.rs fun k18=>.as Y<|.z<|.ret ?_
     exact fin0 (.inr Y) (.one (svB (show (false)=(Parts.ok d l) by (rw [Parts.ok_fail c0.1 (j:=j) (by omega) c2]))) .nil) (.dd .nil) Y
    ·have c2:=(oF (oF (oF (nF id) (aF dF dF)) (nF id)) (nF id)) c2
     refine .skip<|.rs fun k20=>.mv Y<|.bi Y<|.as Y<|.z ?_
     exact .here (j+1) (.of (.cons Y (.cons Y (.cons (svI (show (IntKind.wrap .i64 ((j:Int)+1))=(((j+1):Int)) by first | rfl | omega | exact wrap_le (by omega) (by omega) | (rw [wrap_le (by omega) (by omega)]; omega))) .nil))) (.r Y)) ⟨(show (j+1)≤l.length∧allTo (j+1) (fun i=>Part.ok d (l.getD i default))=true∧risesTo l (j+1)=true by exact ⟨by omega,allTo_step hI.2.1 (part_of c0.1 c2.1.1.1 c2.1.2 c2.2),rises_step hI.2.2 (fun h9=>by have h8:=c2.1.1.2; omega)⟩),(show l.length - (j+1) < l.length - j by omega)⟩
   ·have c1:=of_decide_eq_false c1
    refine .exit<|.seq<|.rs fun k21=>.as Y<|.z<|.ret ?_
    exact fin0 (.inr Y) (.one (svB (show (true)=(Parts.ok d l) by (rw [Parts.ok_done c0 (j:=j) (by omega) hI.2.1 hI.2.2]))) .nil) (.dd .nil) Y
theorem c_IndexFuncP (l:List Part) (F_p:FuncId) (first_p:List (Bool × List D)) (caps_p:List D) (p:Part→Bool) (h_p:∀ (x0:Part),FnTrip Tryz.prog F_p first_p caps_p [(true,2)] (Part.c62 x0) [(false,1)] [.v (.bool (p x0))]):Trip Tryz.prog 205 [(false,1),(false,1)] ([.sl false 62 2 (List.map Part.c62 (l))]++[.fn F_p first_p caps_p]) [(false,1)] [.v (.int .i64 (idx p l))] []:=by
 refine Trip.of Tryz.func205 (by decide) (c:=_) Y Y (Nat.le_of_ble_eq_true Y) Y (AftOk.nil _)<|.sl (t:=0) Y fun hs1l=>.seq<|.rs fun k2=>.as Y<|.z<|.seq<|.seq<|.rs fun k3=>?_
 refine .mv Y<|.g (fun _ τ=>⟨_,.len (.no Y) Y (z:=(l.length:Int)) t29 Y Y Y (.d _ _) (map_len _ _) Y τ⟩)<|.mv Y<|.z<|.block ?_
 refine .loop (X:=Nat) (fun ζ=>.of [(0,.one (.d (.sl false 62 2 (List.map Part.c62 (l))))),(1,.one (.d (.fn F_p first_p caps_p))),(7,.one (.d (.v (.int .i64 ((l.length:Int)))))),(8,.one (.d (.v (.int .i64 ((ζ:Int))))))] []) (fun ζ=>ζ≤l.length∧allTo ζ (fun i=>!p (l.getD i default))=true) (fun ζ=>l.length - ζ) ?_ ?_
 ·skip
  exact .here 0 (.of (.cons Y (.cons Y (.cons Y (.cons (svI (show (0)=((0:Int)) by first | rfl | omega | exact wrap_le (by omega) (by omega) | (rw [wrap_le (by omega) (by omega)]; omega))) .nil)))) .nil) (show 0≤l.length∧allTo 0 (fun i=>!p (l.getD i default))=true by exact ⟨by omega,rfl⟩)
 ·rintro j hI
  have hI:j≤l.length∧allTo j (fun i=>!p (l.getD i default))=true:=hI
  refine .seq<|.rs fun k4=>.bi Y<|.z<|.seq ?_
  refine .cond (t:=decide ((j:Int) < (l.length:Int))) Y (fun c0=>?_) (fun c0=>?_)
  ·have c0:=of_decide_eq_true c0
   refine .skip<|.seq<|.block<|.seq<|.rs fun k5=>.mv Y<|.as Y<|.z<|.seq ?_
   refine .rs fun k6=>.mv Y<|.mv Y<|.mv Y<|.g (fun _ τ=>⟨_,.indexAddr (.no Y) Y (j) t29 Y t62 Y Y Y (.d _ _) Y Y Y (map_get (by omega)) Y Y τ⟩)<|.lda t62 Y (.d _) Y<|.g (fun _ τ=>⟨_,.callF (.no Y) Y (ds:=[.sl false 115 2 (List.map Entry.c ((l.getD j default).token)),.sl false 98 3 (List.map Env.c98 ((l.getD j default).table))]) (h_p (l.getD j default)) Y Y Y Y (.own [16,0] .nil) Y Y Y Y Y Y τ⟩)<|.z ?_
   refine .cond (t:=p (l.getD j default)) Y (fun c1=>?_) (fun c1=>?_)
   ·have c1:=c1
    refine .seq<|.rs fun k7=>.mv Y<|.as Y<|.z<|.ret ?_
    exact fin0 (.inr Y) (.one (svI (show ((j:Int))=(idx p l) by exact (idx_found (j:=j) (by omega) hI.2 (by simpa using c1)).symm)) .nil) (.dd .nil) Y
   ·have c1:=c1
    refine .skip<|.rs fun k9=>.bi Y<|.mv Y<|.z ?_
    exact .here (j+1) (.of (.cons Y (.cons Y (.cons Y (.cons (svI (show (IntKind.wrap .i64 ((j:Int)+1))=(((j+1):Int)) by first | rfl | omega | exact wrap_le (by omega) (by omega) | (rw [wrap_le (by omega) (by omega)]; omega))) .nil)))) .nil) ⟨(show (j+1)≤l.length∧allTo (j+1) (fun i=>!p (l.getD i default))=true by exact ⟨by omega,allTo_step hI.2 (by simpa using c1)⟩),(show l.length - (j+1) < l.length - j by omega)⟩
  ·have c0:=of_decide_eq_false c0
   refine .exit<|.seq<|.rs fun k10=>.as Y<|.z<|.ret ?_
   exact fin0 (.inr Y) (.one (svI (show (-1)=(idx p l) by exact (idx_none (by omega) hI.2).symm)) .nil) (.dd .nil) Y
theorem c_ContainsFuncP (l:List Part) (F_p:FuncId) (first_p:List (Bool × List D)) (caps_p:List D) (p:Part→Bool) (h_p:∀ (x0:Part),FnTrip Tryz.prog F_p first_p caps_p [(true,2)] (Part.c62 x0) [(false,1)] [.v (.bool (p x0))]):Trip Tryz.prog 176 [(false,1),(false,1)] ([.sl false 62 2 (List.map Part.c62 (l))]++[.fn F_p first_p caps_p]) [(false,1)] [.v (.bool (l.any p))] []:=by
 refine Trip.of Tryz.func176 (by decide) (c:=_) Y Y (Nat.le_of_ble_eq_true Y) Y (AftOk.nil _)<|.sl (t:=0) Y fun hs1l=>.seq<|.rs fun k2=>.as Y<|.z<|.seq<|.rs fun k3=>.mv Y ?_
 refine .mv Y<|.c0 (c_IndexFuncP l F_p first_p caps_p p h_p) Y (.dd (.dd .nil)) (.own [7,0] .nil) Y<|.bi Y<|.as Y<|.z<|.ret ?_
 exact fin0 (.inr Y) (.one (svB (show (decide ((idx p l)≥0))=(l.any p) by exact idx_any _ _)) .nil) (.dd .nil) Y
theorem c_areAll1P (x:Part) (F_p:FuncId) (first_p:List (Bool × List D)) (caps_p:List D) (p:Part→Bool) (h_p:∀ (x0:Part),FnTrip Tryz.prog F_p first_p caps_p [(true,2)] (Part.c62 x0) [(false,1)] [.v (.bool (p x0))]):Trip Tryz.prog 177 [(true,2),(false,1)] (Part.c62 x++[.pt false [.fn F_p first_p caps_p]]) [(false,1)] [.v (.bool (!p x))] []:=by
 refine Trip.of Tryz.func177 (by decide) (c:=_) Y Y (Nat.le_of_ble_eq_true Y) Y (AftOk.nil _)<|.sla (t:=0) 0 Y Y fun hs1l=>.sla (t:=0) 1 Y Y fun hs2l=>.seq<|.rs fun k3=>.g (fun _ τ=>⟨_,.box (.no Y) Y Y Y Y Y τ⟩)<|.as Y<|.z<|.seq ?_
 refine .rs fun k4=>.ld t164 Y (.d _) Y<|.lda t62 Y (.ptr _ _ _ _ _ Y) Y<|.g (fun _ τ=>⟨_,.callF (.no Y) Y (ds:=[.sl false 115 2 (List.map Entry.c (x.token)),.sl false 98 3 (List.map Env.c98 (x.table))]) (h_p x) Y Y Y Y (.own [6,0] .nil) Y Y Y Y Y Y τ⟩)<|.un Y<|.as Y<|.z<|.ret ?_
 exact fin0 (.inr Y) (.one (svB (show (!(p x))=(!p x) by rfl)) .nil) (.dd .nil) Y
theorem c_areAllP (l:List Part) (F_p:FuncId) (first_p:List (Bool × List D)) (caps_p:List D) (p:Part→Bool) (h_p:∀ (x0:Part),FnTrip Tryz.prog F_p first_p caps_p [(true,2)] (Part.c62 x0) [(false,1)] [.v (.bool (p x0))]):Trip Tryz.prog 133 [(false,1),(false,1)] ([.sl false 62 2 (List.map Part.c62 (l))]++[.fn F_p first_p caps_p]) [(false,1)] [.v (.bool (l.all p))] []:=by
 refine Trip.of Tryz.func133 (by decide) (c:=_) Y Y (Nat.le_of_ble_eq_true Y) Y (AftOk.nil _)<|.sl (t:=0) Y fun hs1l=>.seq<|.rs fun k2=>.g (fun _ τ=>⟨_,.box (.no Y) Y Y Y Y Y τ⟩)<|.as Y<|.z<|.seq<|.rs fun k3=>?_
 refine .mv Y<|.g (fun _ τ=>⟨_,.makeFunc (.no Y) Y Y Y Y Y τ⟩)<|.g (fun _ τ=>⟨_,.call (.no Y) Y [[3]] [([3],(k2,k2,.box [.d (.fn F_p first_p caps_p)]))] (c_ContainsFuncP l 177 [] [.pt false [.fn F_p first_p caps_p]] (fun x0=>!p x0) (fun x0=>c_areAll1P x0 F_p first_p caps_p p h_p)) Y Y Y Y Y (.dd (.cons (Reads.clo0 (.cons (Reads.ptr0 (.head _) (.head _) (.cons (Reads.d _) .nil)) .nil)).gives .nil)) Y Y (fun _=>(ownCons (Owned.v _) ownNil)) (.own [7,0] .nil) (.nil) Y Y Y (AllH.get (.r Y)) Y Y Y τ⟩)<|.un Y<|.as Y<|.z<|.ret ?_
 exact fin0 (.inr Y) (.one (svB (show (!(l.any (fun x0=>!p x0)))=(l.all p) by exact not_any _ _)) .nil) (.dd .nil) Y
theorem c_partOk1 (e:Env):Trip Tryz.prog 180 [(true,3)] (Env.c98 e) [(false,1)] [.v (.bool (Env.live e))] []:=by
 refine Trip.of Tryz.func180 (by decide) (c:=_) Y Y (Nat.le_of_ble_eq_true Y) Y (AftOk.nil _)<|.sla (t:=0) 1 Y Y fun hs1l=>.sla (t:=0) 2 Y Y fun hs2l=>.seq<|.rs fun k3=>.g (fun _ τ=>⟨_,.box (.no Y) Y Y Y Y Y τ⟩)<|.as Y<|.z<|.seq ?_
 refine .rs fun k4=>.fp t98 t4 Y<|.ld t4 Y (.ptr _ _ _ _ _ Y) Y<|.as Y<|.z<|.ret ?_
 exact fin0 (.inr Y) (.one (svB (show (e.live)=(Env.live e) by rfl)) .nil) (.dd .nil) Y
theorem c_partOk (d:Decl) (p:Part):Trip Tryz.prog 134 [(true,3),(true,2)] (Decl.c33 d++Part.c62 p) [(false,1)] [.v (.bool (Part.ok d p))] []:=by
 refine Trip.of Tryz.func134 (by decide) (c:=_) Y Y (Nat.le_of_ble_eq_true Y) Y (AftOk.nil _)<|.sla (t:=0) 0 Y Y fun hs1l=>.sla (t:=0) 1 Y Y fun hs2l=>.sla (t:=0) 2 Y Y fun hs3l=>.sla (t:=1) 0 Y Y fun hs4l=>.sla (t:=1) 1 Y Y fun hs5l=>.seq<|.rs fun k6=>.g (fun _ τ=>⟨_,.box (.no Y) Y Y Y Y Y τ⟩) ?_
 refine .g (fun _ τ=>⟨_,.box (.no Y) Y Y Y Y Y τ⟩)<|.as Y<|.z<|.seq ?_
 refine .reg (X:=Unit) (fun ζ=>.of [(4,.one (.d (.v (.bool (((tokOk p.token&&Table.isIn d p.table)&&p.table.any (fun x0=>Env.live x0)))))))] []) [⟨[3],some 5,[],[]⟩,⟨[5],some 6,[[3]],[]⟩,⟨[6],some 7,[],[]⟩,⟨[7],some 8,[],[]⟩,⟨[8,2],some 9,[[2]],[]⟩,⟨[8,3],some 10,[],[]⟩,⟨[8,10],some 11,[[3]],[]⟩,⟨[8,9,11],some 12,[],[]⟩,⟨[8,12],some 13,[],[]⟩,⟨[13],some 14,[],[]⟩,⟨[14,3],some 15,[],[]⟩,⟨[14,15],some 16,[[3]],[]⟩,⟨[14,16],some 17,[],[]⟩,⟨[14,17],some 18,[],[]⟩,⟨[18],some 4,[],[]⟩] (fun k7=>?_) ?_
 ·skip
  refine .fieldAddrP (.no Y) Y t62 Y Y t49 Y Y Y Y<|.load (.no Y) Y t49 Y Y (.ptr _ _ _ _ _ Y) Y Y Y Y<|.call (.no Y) Y [] [] (c_TokenOk p.token) Y Y Y Y Y (.dd .nil) Y Y (fun h=>absurd Y h) (.own [7,0] .nil) (.nil) Y Y Y (by simp) Y Y Y<|.moveB (.no Y) Y Y Y Y fun b8 g1_3=>?_
  cases b8
  ·skip
   refine .off Y Y Y Y Y Y Y<|.off Y Y Y Y Y Y Y<|.off Y Y Y Y Y Y Y<|.off Y Y Y Y Y Y Y<|.pick (.no Y) Y Y Y Y Y<|.move (.no Y) Y Y Y Y<|.off Y Y Y Y Y Y Y<|.off Y Y Y Y Y Y Y<|.off Y Y Y Y Y Y Y ?_
   refine .pick (.no Y) Y Y Y Y Y<|.assign (.no Y) Y Y Y Y ?_
   exact .fin () (.of (.cons (svB (show (false)=(((tokOk p.token&&Table.isIn d p.table)&&p.table.any (fun x0=>Env.live x0))) by first | (simp only [g1_3,Bool.true_or,Bool.false_or,Bool.true_and,Bool.false_and,Bool.not_true,Bool.not_false]; done) | (simp [g1_3]; done) | (exfalso; simp_all; done))) .nil) .nil)
  ·skip
   refine .load (.on Y Y Y Y Y) Y t33 Y Y (.ptr _ _ _ _ _ Y) Y Y Y Y<|.fieldAddrP (.on Y Y Y Y Y) Y t62 Y Y t60 Y Y Y Y<|.load (.on Y Y Y Y Y) Y t60 Y Y (.ptr _ _ _ _ _ Y) Y Y Y Y<|.call (.on Y Y Y Y Y) Y [] [] (c_isTable d p.table) Y Y Y Y Y (.dd (.dd (.dd (.dd .nil)))) Y Y (fun h=>absurd Y h) (.own [12,0] .nil) (.nil) Y Y Y (by simp) Y Y Y<|.pick (.no Y) Y Y Y Y Y<|.moveB (.no Y) Y Y Y Y fun b9 g1_9=>?_
   cases b9
   ·skip
    refine .off Y Y Y Y Y Y Y<|.off Y Y Y Y Y Y Y<|.off Y Y Y Y Y Y Y<|.pick (.no Y) Y Y Y Y Y<|.assign (.no Y) Y Y Y Y ?_
    exact .fin () (.of (.cons (svB (show (false)=(((tokOk p.token&&Table.isIn d p.table)&&p.table.any (fun x0=>Env.live x0))) by first | (simp only [g1_3,g1_9,Bool.true_or,Bool.false_or,Bool.true_and,Bool.false_and,Bool.not_true,Bool.not_false]; done) | (simp [g1_3,g1_9]; done) | (exfalso; simp_all; done))) .nil) .nil)
   ·skip
    refine .fieldAddrP (.on Y Y Y Y Y) Y t62 Y Y t60 Y Y Y Y<|.load (.on Y Y Y Y Y) Y t60 Y Y (.ptr _ _ _ _ _ Y) Y Y Y Y<|.call (.on Y Y Y Y Y) Y [] [] (c_ContainsFuncE p.table 180 [] [] (fun x0=>Env.live x0) (fun x0=>c_partOk1 x0)) Y Y Y Y Y (.dd (.dd .nil)) Y Y (fun h=>absurd Y h) (.own [17,0] .nil) (.nil) Y Y Y (by simp) Y Y Y<|.pick (.no Y) Y Y Y Y Y<|.assign (.no Y) Y Y Y Y ?_
    exact .fin () (.of (.cons (svB (show (p.table.any (fun x0=>Env.live x0))=(((tokOk p.token&&Table.isIn d p.table)&&p.table.any (fun x0=>Env.live x0))) by first | (simp only [g1_3,g1_9,Bool.true_or,Bool.false_or,Bool.true_and,Bool.false_and,Bool.not_true,Bool.not_false]; done) | (simp [g1_3,g1_9]; done) | (exfalso; simp_all; done))) .nil) .nil)
 intro _
 refine .ret ?_
 exact fin0 (.inr Y) (.one (svB (show (((tokOk p.token&&Table.isIn d p.table)&&p.table.any (fun x0=>Env.live x0)))=(Part.ok d p) by rfl)) .nil) (.dd .nil) Y
theorem c_areParts (d:Decl) (l:List Part):Trip Tryz.prog 79 [(true,3),(false,1)] (Decl.c33 d++[.sl false 62 2 (List.map Part.c62 (l))]) [(false,1)] [.v (.bool (Parts.isIn d l))] []:=by
 refine Trip.of Tryz.func79 (by decide) (c:=_) Y Y (Nat.le_of_ble_eq_true Y) Y (AftOk.nil _)<|.sla (t:=0) 0 Y Y fun hs1l=>.sla (t:=0) 1 Y Y fun hs2l=>.sla (t:=0) 2 Y Y fun hs3l=>.sl (t:=1) Y fun hs4l=>.seq<|.rs fun k5=>.g (fun _ τ=>⟨_,.box (.no Y) Y Y Y Y Y τ⟩)<|.as Y ?_
 refine .z<|.seq<|.seq<|.rs fun k6=>.as Y<|.z<|.block ?_
 refine .loop (X:=Nat) (fun ζ=>.of [(1,.one (.d (.sl false 62 2 (List.map Part.c62 (l))))),(2,.one (.ptr [2] (k5) 0)),(5,.one (.d (.v (.int .i64 ((ζ:Int))))))] [([2],(k5,k5,.box [.d (.sl false 9 1 (List.map strc (d.vars))),.d (.sl false 9 1 (List.map strc (d.flags))),.d (.sl false 112 2 (List.map Arr.c (d.arrays)))]))]) (fun ζ=>1≤ζ∧(ζ≤l.length∨ζ=1)∧risesTo l ζ=true) (fun ζ=>l.length - ζ) ?_ ?_
 ·skip
  exact .here 1 (.of (.cons Y (.cons Y (.cons (svI (show (1)=((1:Int)) by first | rfl | omega | exact wrap_le (by omega) (by omega) | (rw [wrap_le (by omega) (by omega)]; omega))) .nil))) (.r Y)) (show 1≤1∧(1≤l.length∨1=1)∧risesTo l 1=true by exact ⟨by omega,by omega,rfl⟩)
 ·rintro j hI
  have hI:1≤j∧(j≤l.length∨j=1)∧risesTo l j=true:=hI
  refine .seq<|.seq<|.rs fun k7=>.mv Y<|.mv Y<|.g (fun _ τ=>⟨_,.len (.no Y) Y (z:=(l.length:Int)) t29 Y Y Y (.d _ _) (map_len _ _) Y τ⟩)<|.bi Y<|.z ?_
  refine .cond (t:=decide ((j:Int) < (l.length:Int))) Y (fun c0=>?_) (fun c0=>?_)
  ·have c0:=of_decide_eq_true c0
   refine .skip<|.seq<|.block<|.seq ?_
   refine .regD (X:=Unit) (by kernel_rfl) (fun ζ=>.of [(1,.one (.d (.sl false 62 2 (List.map Part.c62 (l))))),(2,.one (.ptr [2] (k5) 0)),(5,.one (.d (.v (.int .i64 ((j:Int)))))),(24,.one (.d (.v (.bool (decide ((tokCmp ((l.getD (j - 1) default).token) ((l.getD j default).token))≥0))))))] [([2],(k5,k5,.box [.d (.sl false 9 1 (List.map strc (d.vars))),.d (.sl false 9 1 (List.map strc (d.flags))),.d (.sl false 112 2 (List.map Arr.c (d.arrays)))]))]) [⟨[1],some 12,[],[]⟩,⟨[5],some 13,[],[]⟩,⟨[13],some 14,[],[]⟩,⟨[12,14],some 15,[],[]⟩,⟨[15],some 16,[],[]⟩,⟨[16],some 17,[],[]⟩,⟨[1],some 18,[],[]⟩,⟨[5],some 19,[],[]⟩,⟨[18,19],some 20,[],[]⟩,⟨[20],some 21,[],[]⟩,⟨[21],some 22,[],[]⟩,⟨[17,22],some 23,[],[]⟩,⟨[23],some 24,[],[]⟩] (by kernel_rfl) (fun k8=>?_) ?_
   ·skip
    refine .move (.no Y) Y Y Y Y<|.move (.no Y) Y Y Y Y<|.bin (.no Y) Y Y Y Y Y Y<|.indexAddr (.no Y) Y ((j - 1)) t29 Y t62 Y Y Y (.d _ _) Y Y (by (rw [wrap_le (by omega) (by omega)]; omega)) (map_get (by omega)) Y Y<|.fieldAddr (.no Y) Y t62 Y Y t49 Y Y Y Y [] (by simp) (by intro _ _ _ h; cases h) Y Y<|.load (.no Y) Y t49 Y Y (.d _) Y Y Y Y<|.move (.no Y) Y Y Y Y<|.move (.no Y) Y Y Y Y<|.indexAddr (.no Y) Y (j) t29 Y t62 Y Y Y (.d _ _) Y Y Y (map_get (by omega)) Y Y ?_
    refine .fieldAddr (.no Y) Y t62 Y Y t49 Y Y Y Y [] (by simp) (by intro _ _ _ h; cases h) Y Y<|.load (.no Y) Y t49 Y Y (.d _) Y Y Y Y<|.call (.no Y) Y [] [] (c_compareTokens ((l.getD (j - 1) default).token) ((l.getD j default).token)) Y Y Y Y Y (.dd (.dd .nil)) Y Y (fun h=>absurd Y h) (.own [23,0] .nil) (.nil) Y Y Y (by simp) Y Y Y<|.bin (.no Y) Y Y Y Y Y Y ?_
    exact .fin () (.of (.r Y) (.r Y))
   intro _
   refine .cond (t:=decide ((tokCmp ((l.getD (j - 1) default).token) ((l.getD j default).token))≥0)) Y (fun c1=>?_) (fun c1=>?_)
   ·have c1:=of_decide_eq_true c1
    refine .seq<|.rs fun k9=>.as Y<|.z<|.ret ?_
    exact fin0 (.inr Y) (.one (svB (show (false)=(Parts.isIn d l) by (rw [Parts.isIn_rise (j:=j) (by omega) (by omega) (by omega)]))) .nil) (.dd .nil) Y
   ·have c1:=of_decide_eq_false c1
    refine .skip<|.rs fun k11=>.mv Y<|.bi Y<|.as Y<|.z ?_
    exact .here (j+1) (.of (.cons Y (.cons Y (.cons (svI (show (IntKind.wrap .i64 ((j:Int)+1))=(((j+1):Int)) by first | rfl | omega | exact wrap_le (by omega) (by omega) | (rw [wrap_le (by omega) (by omega)]; omega))) .nil))) (.r Y)) ⟨(show 1≤(j+1)∧((j+1)≤l.length∨(j+1)=1)∧risesTo l (j+1)=true by exact ⟨by omega,by omega,rises_step hI.2.2 (fun _=>by omega)⟩),(show l.length - (j+1) < l.length - j by omega)⟩
  ·have c0:=of_decide_eq_false c0
   refine .exit<|.seq ?_
   refine .reg (X:=Unit) (fun ζ=>.of [(4,.one (.d (.v (.bool ((decide ((l.length:Int)≤100)&&l.all (fun x0=>Part.ok d x0)))))))] []) [⟨[1],some 25,[],[]⟩,⟨[25],some 26,[],[]⟩,⟨[26],some 27,[],[]⟩,⟨[27],some 28,[],[]⟩,⟨[28,1],some 29,[],[]⟩,⟨[28,2],some 30,[[2]],[]⟩,⟨[28,30],some 31,[],[]⟩,⟨[28,29,31],some 32,[],[]⟩,⟨[28,32],some 33,[],[]⟩,⟨[33],some 4,[],[]⟩] (fun k12=>?_) ?_
   ·skip
    refine .move (.no Y) Y Y Y Y<|.len (.no Y) Y (z:=(l.length:Int)) t29 Y Y Y (.d _ _) (map_len _ _) Y<|.bin (.no Y) Y Y Y Y Y Y<|.moveB (.no Y) Y Y Y Y fun b13 g6_3=>?_
    cases b13
    ·skip
     refine .off Y Y Y Y Y Y Y<|.off Y Y Y Y Y Y Y<|.off Y Y Y Y Y Y Y<|.off Y Y Y Y Y Y Y<|.pick (.no Y) Y Y Y Y Y<|.assign (.no Y) Y Y Y Y ?_
     exact .fin () (.of (.cons (svB (show (false)=((decide ((l.length:Int)≤100)&&l.all (fun x0=>Part.ok d x0))) by first | (simp only [g6_3,Bool.true_or,Bool.false_or,Bool.true_and,Bool.false_and,Bool.not_true,Bool.not_false]; done) | (simp [g6_3]; done) | (exfalso; simp_all; done))) .nil) .nil)
    ·skip
     refine .move (.on Y Y Y Y Y) Y Y Y Y<|.load (.on Y Y Y Y Y) Y t33 Y Y (.ptr _ _ _ _ _ Y) Y Y Y Y<|.makeFunc (.on Y Y Y Y Y) Y Y Y Y Y<|.call (.on Y Y Y Y Y) Y [] [] (c_areAllP l 134 [(true,[.sl false 9 1 (List.map strc (d.vars)),.sl false 9 1 (List.map strc (d.flags)),.sl false 112 2 (List.map Arr.c (d.arrays))])] [] (fun x0=>Part.ok d x0) (fun x0=>c_partOk d x0)) Y Y Y Y Y (.dd (.cons (Reads.clo1 (.cons (Reads.d _) (.cons (Reads.d _) (.cons (Reads.d _) .nil))) (.nil)).gives .nil)) Y Y (fun h=>absurd Y h) (.own [32,0] .nil) (.nil) Y Y Y (by simp) Y Y Y<|.pick (.no Y) Y Y Y Y Y<|.assign (.no Y) Y Y Y Y ?_
     exact .fin () (.of (.cons (svB (show (l.all (fun x0=>Part.ok d x0))=((decide ((l.length:Int)≤100)&&l.all (fun x0=>Part.ok d x0))) by first | (simp only [g6_3,Bool.true_or,Bool.false_or,Bool.true_and,Bool.false_and,Bool.not_true,Bool.not_false]; done) | (simp [g6_3]; done) | (exfalso; simp_all; done))) .nil) .nil)
   intro _
   refine .ret ?_
   exact fin0 (.inr Y) (.one (svB (show ((decide ((l.length:Int)≤100)&&l.all (fun x0=>Part.ok d x0)))=(Parts.isIn d l) by exact Parts.isIn_all (j:=j) (by omega) hI.2.2)) .nil) (.dd .nil) Y
theorem c_PartsOk (d:Decl) (l:List Part) (hs:∀ x∈Decl.names d,x.size≤9223372036854775807) (hb:d.vars.length≤1048576∧d.flags.length≤1048576∧d.arrays.length≤1048576):Trip Tryz.prog 30 [(true,3),(false,1)] (Decl.c33 d++[.sl false 62 2 (List.map Part.c62 (l))]) [(false,1)] [.v (.bool (Parts.ok d l))] []:=by
 refine Trip.of Tryz.func30 (by decide) (c:=_) Y Y (Nat.le_of_ble_eq_true Y) Y (AftOk.nil _)<|.sla (t:=0) 0 Y Y fun hs1l=>.sla (t:=0) 1 Y Y fun hs2l=>.sla (t:=0) 2 Y Y fun hs3l=>.sl (t:=1) Y fun hs4l=>.seq<|.rs fun k5=>.g (fun _ τ=>⟨_,.box (.no Y) Y Y Y Y Y τ⟩)<|.as Y ?_
 refine .z<|.seq ?_
 refine .reg (X:=Unit) (fun ζ=>.of [(4,.one (.d (.v (.bool ((Decl.ok d&&Parts.isIn d l))))))] []) [⟨[2],some 5,[[2]],[]⟩,⟨[5],some 6,[],[]⟩,⟨[6],some 7,[],[]⟩,⟨[7,2],some 8,[[2]],[]⟩,⟨[7,1],some 9,[],[]⟩,⟨[7,8,9],some 10,[],[]⟩,⟨[7,10],some 11,[],[]⟩,⟨[11],some 4,[],[]⟩] (fun k6=>?_) ?_
 ·skip
  refine .load (.no Y) Y t33 Y Y (.ptr _ _ _ _ _ Y) Y Y Y Y<|.call (.no Y) Y [] [] (c_isRight d (by assumption) (by assumption)) Y Y Y Y Y (.dd (.dd (.dd .nil))) Y Y (fun h=>absurd Y h) (.own [6,0] .nil) (.nil) Y Y Y (by simp) Y Y Y<|.moveB (.no Y) Y Y Y Y fun b7 g1_2=>?_
  cases b7
  ·skip
   refine .off Y Y Y Y Y Y Y<|.off Y Y Y Y Y Y Y<|.off Y Y Y Y Y Y Y<|.pick (.no Y) Y Y Y Y Y<|.assign (.no Y) Y Y Y Y ?_
   exact .fin () (.of (.cons (svB (show (false)=((Decl.ok d&&Parts.isIn d l)) by first | (simp only [g1_2,Bool.true_or,Bool.false_or,Bool.true_and,Bool.false_and,Bool.not_true,Bool.not_false]; done) | (simp [g1_2]; done) | (exfalso; simp_all; done))) .nil) .nil)
  ·skip
   refine .load (.on Y Y Y Y Y) Y t33 Y Y (.ptr _ _ _ _ _ Y) Y Y Y Y<|.move (.on Y Y Y Y Y) Y Y Y Y<|.call (.on Y Y Y Y Y) Y [] [] (c_areParts d l) Y Y Y Y Y (.dd (.dd (.dd (.dd .nil)))) Y Y (fun h=>absurd Y h) (.own [10,0] .nil) (.nil) Y Y Y (by simp) Y Y Y<|.pick (.no Y) Y Y Y Y Y<|.assign (.no Y) Y Y Y Y ?_
   exact .fin () (.of (.cons (svB (show (Parts.isIn d l)=((Decl.ok d&&Parts.isIn d l)) by first | (simp only [g1_2,Bool.true_or,Bool.false_or,Bool.true_and,Bool.false_and,Bool.not_true,Bool.not_false]; done) | (simp [g1_2]; done) | (exfalso; simp_all; done))) .nil) .nil)
 intro _
 refine .ret ?_
 exact fin0 (.inr Y) (.one (svB (show ((Decl.ok d&&Parts.isIn d l))=(Parts.ok d l) by rfl)) .nil) (.dd .nil) Y
end Go.Proofs

namespace Go.Proofs
open Go Go.Proofs Go.Ev

theorem c_l9Find (l:List Part) (t:List Entry) (hk:∀ i,i < l.length→tokOk (l.getD i default).token=true) (ht:tokOk t=true):Trip Tryz.prog 70 [(false,1),(false,1)] ([.sl false 62 2 (List.map Part.c62 (l))]++[.sl false 115 2 (List.map Entry.c (t))]) [(false,1)] [.v (.int .i64 (partF l t))] []:=by
 refine Trip.of Tryz.func70 (by decide) (c:=_) Y Y (Nat.le_of_ble_eq_true Y) Y (AftOk.nil _)<|.sl (t:=0) Y fun hs1l=>.sl (t:=1) Y fun hs2l=>.seq<|.rs fun k3=>.as Y<|.z<|.seq<|.seq ?_
 refine .rs fun k4=>.as Y<|.z<|.block ?_
 refine .loop (X:=Nat) (fun ζ=>.of [(0,.one (.d (.sl false 62 2 (List.map Part.c62 (l))))),(1,.one (.d (.sl false 115 2 (List.map Entry.c (t))))),(5,.one (.d (.v (.int .i64 ((ζ:Int))))))] []) (fun ζ=>ζ≤l.length∧allTo ζ (fun i=>decide (¬ tokCmp (l.getD i default).token t=0))=true) (fun ζ=>l.length - ζ) ?_ ?_
 ·skip
  exact .here 0 (.of (.cons Y (.cons Y (.cons (svI (show (0)=((0:Int)) by first | rfl | omega | exact wrap_le (by omega) (by omega) | (rw [wrap_le (by omega) (by omega)]; omega))) .nil))) .nil) (show 0≤l.length∧allTo 0 (fun i=>decide (¬ tokCmp (l.getD i default).token t=0))=true by exact ⟨by omega,rfl⟩)
 ·rintro j hI
  have hI:j≤l.length∧allTo j (fun i=>decide (¬ tokCmp (l.getD i default).token t=0))=true:=hI
  refine .seq<|.seq<|.rs fun k5=>.mv Y<|.mv Y<|.g (fun _ τ=>⟨_,.len (.no Y) Y (z:=(l.length:Int)) t29 Y Y Y (.d _ _) (map_len _ _) Y τ⟩)<|.bi Y<|.z ?_
  refine .cond (t:=decide ((j:Int) < (l.length:Int))) Y (fun c0=>?_) (fun c0=>?_)
  ·have c0:=of_decide_eq_true c0
   refine .skip<|.seq<|.block<|.seq<|.rs fun k6=>.mv Y<|.mv Y<|.g (fun _ τ=>⟨_,.indexAddr (.no Y) Y (j) t29 Y t62 Y Y Y (.d _ _) Y Y Y (map_get (by omega)) Y Y τ⟩)<|.g (fun _ τ=>⟨_,.fieldAddr (.no Y) Y t62 Y Y t49 Y Y Y Y [] (by simp) (by intro _ _ _ h; cases h) Y Y τ⟩) ?_
   refine .ld t49 Y (.d _) Y<|.mv Y<|.c0 (c_l9Cmp ((l.getD j default).token) t (by first | assumption | exact hk _ (by omega)) (by first | assumption | exact hk _ (by omega))) Y (.dd (.dd .nil)) (.own [18,0] .nil) Y<|.bi Y<|.z ?_
   refine .cond (t:=(tokCmp ((l.getD j default).token) t) == 0) Y (fun c1=>?_) (fun c1=>?_)
   ·have c1:=(by simpa using c1:(tokCmp ((l.getD j default).token) t)=0)
    refine .seq<|.rs fun k7=>.mv Y<|.as Y<|.z<|.ret ?_
    exact fin0 (.inr Y) (.one (svI (show ((j:Int))=(partF l t) by exact partF_found (by omega) hI.2 c1)) .nil) (.dd .nil) Y
   ·have c1:=(by simpa using c1:¬ ((tokCmp ((l.getD j default).token) t)=0))
    refine .skip<|.rs fun k9=>.mv Y<|.bi Y<|.as Y<|.z ?_
    exact .here (j+1) (.of (.cons Y (.cons Y (.cons (svI (show (IntKind.wrap .i64 ((j:Int)+1))=(((j+1):Int)) by first | rfl | omega | exact wrap_le (by omega) (by omega) | (rw [wrap_le (by omega) (by omega)]; omega))) .nil))) .nil) ⟨(show (j+1)≤l.length∧allTo (j+1) (fun i=>decide (¬ tokCmp (l.getD i default).token t=0))=true by exact ⟨by omega,allTo_step hI.2 (decide_eq_true c1)⟩),(show l.length - (j+1) < l.length - j by omega)⟩
  ·have c0:=of_decide_eq_false c0
   refine .exit<|.seq<|.rs fun k10=>.as Y<|.z<|.ret ?_
   exact fin0 (.inr Y) (.one (svI (show (-1)=(partF l t) by exact partF_none (by omega) hI.2)) .nil) (.dd .nil) Y
theorem c_l9Leq (a:List Part) (b:List Part) (hk:∀ i,i < b.length→tokOk (b.getD i default).token=true) (ha:∀ i,i < a.length→tokOk (a.getD i default).token=true) (hp:∀ i,i < a.length→∀ q,q < b.length→PairOk (a.getD i default).table (b.getD q default).table):Trip Tryz.prog 87 [(false,1),(false,1)] ([.sl false 62 2 (List.map Part.c62 (a))]++[.sl false 62 2 (List.map Part.c62 (b))]) [(false,1)] [.v (.bool (Parts.leqS a b))] []:=by
 refine Trip.of Tryz.func87 (by decide) (c:=_) Y Y (Nat.le_of_ble_eq_true Y) Y (AftOk.nil _)<|.sl (t:=0) Y fun hs1l=>.sl (t:=1) Y fun hs2l=>.seq<|.rs fun k3=>.as Y<|.z<|.seq<|.seq ?_
 refine .rs fun k4=>.as Y<|.z<|.block ?_
 refine .loop (X:=Nat) (fun ζ=>.of [(0,.one (.d (.sl false 62 2 (List.map Part.c62 (a))))),(1,.one (.d (.sl false 62 2 (List.map Part.c62 (b))))),(5,.one (.d (.v (.int .i64 ((ζ:Int))))))] []) (fun ζ=>ζ≤a.length∧allTo ζ (fun i=>decide (¬ partF b (a.getD i default).token < 0)&&tabLeq (a.getD i default).table (b.getD (partF b (a.getD i default).token).toNat default).table)=true) (fun ζ=>a.length - ζ) ?_ ?_
 ·skip
  exact .here 0 (.of (.cons Y (.cons Y (.cons (svI (show (0)=((0:Int)) by first | rfl | omega | exact wrap_le (by omega) (by omega) | (rw [wrap_le (by omega) (by omega)]; omega))) .nil))) .nil) (show 0≤a.length∧allTo 0 (fun i=>decide (¬ partF b (a.getD i default).token < 0)&&tabLeq (a.getD i default).table (b.getD (partF b (a.getD i default).token).toNat default).table)=true by exact ⟨by omega,rfl⟩)
 ·rintro j hI
  have hI:j≤a.length∧allTo j (fun i=>decide (¬ partF b (a.getD i default).token < 0)&&tabLeq (a.getD i default).table (b.getD (partF b (a.getD i default).token).toNat default).table)=true:=hI
  refine .seq<|.seq<|.rs fun k5=>.mv Y<|.mv Y<|.g (fun _ τ=>⟨_,.len (.no Y) Y (z:=(a.length:Int)) t29 Y Y Y (.d _ _) (map_len _ _) Y τ⟩)<|.bi Y<|.z ?_
  refine .cond (t:=decide ((j:Int) < (a.length:Int))) Y (fun c0=>?_) (fun c0=>?_)
  ·have c0:=of_decide_eq_true c0
   refine .skip<|.seq<|.block<|.seq<|.rs fun k6=>.mv Y<|.mv Y<|.mv Y<|.g (fun _ τ=>⟨_,.indexAddr (.no Y) Y (j) t29 Y t62 Y Y Y (.d _ _) Y Y Y (map_get (by first | omega | exact (by have h9:=of_decide_eq_false g5_2; have h8:=partF_lt b (a.getD j default).token; omega))) Y Y τ⟩) ?_
   refine .g (fun _ τ=>⟨_,.fieldAddr (.no Y) Y t62 Y Y t49 Y Y Y Y [] (by simp) (by intro _ _ _ h; cases h) Y Y τ⟩)<|.ld t49 Y (.d _) Y<|.c0 (c_l9Find b ((a.getD j default).token) (by first | assumption | exact ha _ (by omega) | (have h7:=hp j (by omega) ((partF b (a.getD j default).token).toNat) ((by have h9:=of_decide_eq_false g5_2; have h8:=partF_lt b (a.getD j default).token; omega)); first | exact h7.1 | exact h7.2.1 | exact h7.2.2.1 | exact h7.2.2.2)) (by first | assumption | exact ha _ (by omega) | (have h7:=hp j (by omega) ((partF b (a.getD j default).token).toNat) ((by have h9:=of_decide_eq_false g5_2; have h8:=partF_lt b (a.getD j default).token; omega)); first | exact h7.1 | exact h7.2.1 | exact h7.2.2.1 | exact h7.2.2.2))) Y (.dd (.dd .nil)) (.own [19,0] .nil) Y<|.as Y<|.z<|.seq ?_
   refine .regD (X:=Unit) (by kernel_rfl) (fun ζ=>.of [(0,.one (.d (.sl false 62 2 (List.map Part.c62 (a))))),(1,.one (.d (.sl false 62 2 (List.map Part.c62 (b))))),(5,.one (.d (.v (.int .i64 ((j:Int)))))),(35,.one (.d (.v (.bool ((decide ((partF b ((a.getD j default).token)) < 0)||!(tabLeq ((a.getD j default).table) ((b.getD ((partF b ((a.getD j default).token)).toNat) default).table))))))))] []) [⟨[6],some 20,[],[]⟩,⟨[20],some 21,[],[]⟩,⟨[21],some 22,[],[]⟩,⟨[22,0],some 23,[],[]⟩,⟨[22,5],some 24,[],[]⟩,⟨[22,23,24],some 25,[],[]⟩,⟨[22,25],some 26,[],[]⟩,⟨[22,26],some 27,[],[]⟩,⟨[22,1],some 28,[],[]⟩,⟨[22,6],some 29,[],[]⟩,⟨[22,28,29],some 30,[],[]⟩,⟨[22,30],some 31,[],[]⟩,⟨[22,31],some 32,[],[]⟩,⟨[22,27,32],some 33,[],[]⟩,⟨[22,33],some 34,[],[]⟩,⟨[22,34],some 35,[],[]⟩] (by kernel_rfl) (fun k7=>?_) ?_
   ·skip
    refine .move (.no Y) Y Y Y Y<|.bin (.no Y) Y Y Y Y Y Y<|.moveB (.no Y) Y Y Y Y fun b8 g5_2=>?_
    cases b8
    ·skip
     refine .move (.on Y Y Y Y Y) Y Y Y Y<|.move (.on Y Y Y Y Y) Y Y Y Y<|.indexAddr (.on Y Y Y Y Y) Y (j) t29 Y t62 Y Y Y (.d _ _) Y Y Y (map_get (by first | omega | exact (by have h9:=of_decide_eq_false g5_2; have h8:=partF_lt b (a.getD j default).token; omega))) Y Y<|.fieldAddr (.on Y Y Y Y Y) Y t62 Y Y t60 Y Y Y Y [] (by simp) (by intro _ _ _ h; cases h) Y Y<|.load (.on Y Y Y Y Y) Y t60 Y Y (.d _) Y Y Y Y<|.move (.on Y Y Y Y Y) Y Y Y Y<|.move (.on Y Y Y Y Y) Y Y Y Y ?_
     refine .indexAddr (.on Y Y Y Y Y) Y ((partF b ((a.getD j default).token)).toNat) t29 Y t62 Y Y Y (.d _ _) Y Y (by (have h9:=of_decide_eq_false g5_2; omega)) (map_get (by first | omega | exact (by have h9:=of_decide_eq_false g5_2; have h8:=partF_lt b (a.getD j default).token; omega))) Y Y<|.fieldAddr (.on Y Y Y Y Y) Y t62 Y Y t60 Y Y Y Y [] (by simp) (by intro _ _ _ h; cases h) Y Y<|.load (.on Y Y Y Y Y) Y t60 Y Y (.d _) Y Y Y Y ?_
     refine .call (.on Y Y Y Y Y) Y [] [] (c_l8Leq ((a.getD j default).table) ((b.getD ((partF b ((a.getD j default).token)).toNat) default).table) (by first | assumption | exact ha _ (by omega) | (have h7:=hp j (by omega) ((partF b (a.getD j default).token).toNat) ((by have h9:=of_decide_eq_false g5_2; have h8:=partF_lt b (a.getD j default).token; omega)); first | exact h7.1 | exact h7.2.1 | exact h7.2.2.1 | exact h7.2.2.2)) (by first | assumption | exact ha _ (by omega) | (have h7:=hp j (by omega) ((partF b (a.getD j default).token).toNat) ((by have h9:=of_decide_eq_false g5_2; have h8:=partF_lt b (a.getD j default).token; omega)); first | exact h7.1 | exact h7.2.1 | exact h7.2.2.1 | exact h7.2.2.2)) (by first | assumption | exact ha _ (by omega) | (have h7:=hp j (by omega) ((partF b (a.getD j default).token).toNat) ((by have h9:=of_decide_eq_false g5_2; have h8:=partF_lt b (a.getD j default).token; omega)); first | exact h7.1 | exact h7.2.1 | exact h7.2.2.1 | exact h7.2.2.2)) (by first | assumption | exact ha _ (by omega) | (have h7:=hp j (by omega) ((partF b (a.getD j default).token).toNat) ((by have h9:=of_decide_eq_false g5_2; have h8:=partF_lt b (a.getD j default).token; omega)); first | exact h7.1 | exact h7.2.1 | exact h7.2.2.1 | exact h7.2.2.2))) Y Y Y Y Y (.dd (.dd .nil)) Y Y (fun h=>absurd Y h) (.own [33,0] .nil) (.nil) Y Y Y (by simp) Y Y Y ?_
     refine .un (.on Y Y Y Y Y) Y Y Y Y Y<|.pick (.no Y) Y Y Y Y Y ?_
     exact .fin () (.of (.cons Y (.cons Y (.cons Y (.cons (svB (show (!(tabLeq ((a.getD j default).table) ((b.getD ((partF b ((a.getD j default).token)).toNat) default).table)))=((decide ((partF b ((a.getD j default).token)) < 0)||!(tabLeq ((a.getD j default).table) ((b.getD ((partF b ((a.getD j default).token)).toNat) default).table)))) by first | (simp only [g5_2,Bool.true_or,Bool.false_or,Bool.true_and,Bool.false_and,Bool.not_true,Bool.not_false]; done) | (simp [g5_2]; done) | (exfalso; simp_all; done))) .nil)))) .nil)
    ·skip
     refine .off Y Y Y Y Y Y Y<|.off Y Y Y Y Y Y Y<|.off Y Y Y Y Y Y Y<|.off Y Y Y Y Y Y Y<|.off Y Y Y Y Y Y Y<|.off Y Y Y Y Y Y Y<|.off Y Y Y Y Y Y Y<|.off Y Y Y Y Y Y Y<|.off Y Y Y Y Y Y Y ?_
     refine .off Y Y Y Y Y Y Y<|.off Y Y Y Y Y Y Y<|.off Y Y Y Y Y Y Y<|.pick (.no Y) Y Y Y Y Y ?_
     exact .fin () (.of (.cons Y (.cons Y (.cons Y (.cons (svB (show (true)=((decide ((partF b ((a.getD j default).token)) < 0)||!(tabLeq ((a.getD j default).table) ((b.getD ((partF b ((a.getD j default).token)).toNat) default).table)))) by first | (simp only [g5_2,Bool.true_or,Bool.false_or,Bool.true_and,Bool.false_and,Bool.not_true,Bool.not_false]; done) | (simp [g5_2]; done) | (exfalso; simp_all; done))) .nil)))) .nil)
   intro _
   refine .cond (t:=(decide ((partF b ((a.getD j default).token)) < 0)||!(tabLeq ((a.getD j default).table) ((b.getD ((partF b ((a.getD j default).token)).toNat) default).table)))) Y (fun c1=>?_) (fun c1=>?_)
   ·have c1:=(oT dT (nT id)) c1
    refine .seq<|.rs fun k9=>.as Y<|.z<|.ret ?_
    exact fin0 (.inr Y) (.one (svB (show (false)=(Parts.leqS a b) by (rw [leqS_fail (j:=j) (by omega) c1]))) .nil) (.dd .nil) Y
   ·have c1:=(oF dF (nF id)) c1
    refine .skip<|.rs fun k11=>.mv Y<|.bi Y<|.as Y<|.z ?_
    exact .here (j+1) (.of (.cons Y (.cons Y (.cons (svI (show (IntKind.wrap .i64 ((j:Int)+1))=(((j+1):Int)) by first | rfl | omega | exact wrap_le (by omega) (by omega) | (rw [wrap_le (by omega) (by omega)]; omega))) .nil))) .nil) ⟨(show (j+1)≤a.length∧allTo (j+1) (fun i=>decide (¬ partF b (a.getD i default).token < 0)&&tabLeq (a.getD i default).table (b.getD (partF b (a.getD i default).token).toNat default).table)=true by exact ⟨by omega,allTo_step hI.2 (by rw [decide_eq_true c1.1,c1.2]; rfl)⟩),(show a.length - (j+1) < a.length - j by omega)⟩
  ·have c0:=of_decide_eq_false c0
   refine .exit<|.seq<|.rs fun k12=>.as Y<|.z<|.ret ?_
   exact fin0 (.inr Y) (.one (svB (show (true)=(Parts.leqS a b) by (unfold Parts.leqS; exact (allTo_le (by omega) hI.2).symm))) .nil) (.dd .nil) Y
end Go.Proofs

namespace Go.Proofs
open Go Go.Proofs Go.Ev

theorem c_bsearch (l:List Part) (t:List Entry) (F_p:FuncId) (first_p:List (Bool × List D)) (caps_p:List D) (p:Part→(List Entry)→Int) (h_p:∀ (x0:Part) (x1:List Entry),FnTrip Tryz.prog F_p first_p caps_p [(true,2),(false,1)] (Part.c62 x0++[.sl false 115 2 (List.map Entry.c (x1))]) [(false,1)] [.v (.int .i64 (p x0 x1))]) (hl:l.length≤1048576):Trip Tryz.prog 114 [(false,1),(false,1),(false,1)] ([.sl false 62 2 (List.map Part.c62 (l))]++[.sl false 115 2 (List.map Entry.c (t))]++[.fn F_p first_p caps_p]) [(false,1),(false,1)] [.v (.int .i64 ((bsAt (fun q=>p (l.getD q default) t) l.length:Int))),.v (.bool (decide ((bsAt (fun q=>p (l.getD q default) t) l.length:Int) < (l.length:Int))&&(p (l.getD (bsAt (fun q=>p (l.getD q default) t) l.length) default) t == 0)))] []:=by
 refine Trip.of Tryz.func114 (by decide +kernel) (c:=_) Y Y (Nat.le_of_ble_eq_true Y) Y (AftOk.nil _)<|.sl (t:=0) Y fun hs1l=>.sl (t:=1) Y fun hs2l=>.seq<|.rs fun k3=>.as Y<|.as Y<|.z<|.seq ?_
 refine .rs fun k4=>.mv Y<|.g (fun _ τ=>⟨_,.len (.no Y) Y (z:=(l.length:Int)) t29 Y Y Y (.d _ _) (map_len _ _) Y τ⟩)<|.as Y<|.z<|.seq<|.rs fun k5=>.mv Y<|.as Y ?_
 refine .as Y<|.z<|.seq<|.block ?_
 refine .loop (X:=Nat × Nat) (fun ζ=>.of [(0,.one (.d (.sl false 62 2 (List.map Part.c62 (l))))),(1,.one (.d (.sl false 115 2 (List.map Entry.c (t))))),(2,.one (.d (.fn F_p first_p caps_p))),(8,.one (.d (.v (.int .i64 ((l.length:Int)))))),(9,.one (.d (.v (.int .i64 ((ζ.1:Int)))))),(10,.one (.d (.v (.int .i64 ((ζ.2:Int))))))] []) (fun ζ=>BsI (fun q=>p (l.getD q default) t) l.length ζ.1 ζ.2) (fun ζ=>ζ.2 - ζ.1) ?_ ?_
 ·skip
  exact .here (0,l.length) (.of (.cons Y (.cons Y (.cons Y (.cons Y (.cons (svI (show (0)=((0:Int)) by first | rfl | omega | (have h9:=h6 (by omega); exact wrap_le (by omega) (by omega)))) (.r Y)))))) .nil) (show BsI (fun q=>p (l.getD q default) t) l.length 0 l.length by exact BsI.init _ _)
 ·rintro ⟨i,j⟩ hI
  have hI:BsI (fun q=>p (l.getD q default) t) l.length i j:=hI
  have h8:=hI.1
  have h7:=hI.2.1
  have h6:i < j→i≤mid i j∧mid i j < j:=mid_bnd
  dsimp only
  refine .seq<|.seq<|.rs fun k6=>.mv Y<|.mv Y<|.bi Y<|.z ?_
  refine .cond (t:=decide ((i:Int) < (j:Int))) Y (fun c0=>?_) (fun c0=>?_)
  ·have c0:=of_decide_eq_true c0
   refine .skip<|.block<|.seq<|.rs fun k7=>.mv Y<|.mv Y<|.bi Y<|.g (fun _ τ=>⟨_,.conv (.no Y) Y (z':=((i:Int)+(j:Int))) t3 t100 Y Y Y Y (by rw [wrap_le (by omega) (by omega)]; exact wrap_u64 (by omega) (by omega)) Y τ⟩)<|.bi Y ?_
   refine .g (fun _ τ=>⟨_,.conv (.no Y) Y (z':=(mid i j:Int)) t100 t3 Y Y Y Y (bs_mid (i:=i) (j:=j) (by omega)) Y τ⟩)<|.as Y<|.z<|.seq<|.rs fun k8=>.mv Y<|.mv Y<|.mv Y<|.g (fun _ τ=>⟨_,.indexAddr (.no Y) Y (mid i j) t29 Y t62 Y Y Y (.d _ _) Y Y Y (map_get (by first | omega | (have h9:=h6 (by omega); omega) | (have h9:=of_decide_eq_true g8_4; omega))) Y Y τ⟩) ?_
   refine .lda t62 Y (.d _) Y<|.mv Y<|.g (fun _ τ=>⟨_,.callF (.no Y) Y (ds:=[.sl false 115 2 (List.map Entry.c ((l.getD (mid i j) default).token)),.sl false 98 3 (List.map Env.c98 ((l.getD (mid i j) default).table)),.sl false 115 2 (List.map Entry.c (t))]) (h_p (l.getD (mid i j) default) t) Y Y Y Y (.own [30,0] .nil) Y Y Y Y Y Y τ⟩)<|.bi Y<|.z ?_
   refine .cond (t:=decide ((p (l.getD (mid i j) default) t) < 0)) Y (fun c1=>?_) (fun c1=>?_)
   ·have c1:=of_decide_eq_true c1
    refine .rs fun k9=>.mv Y<|.bi Y<|.as Y<|.z ?_
    exact .here ((mid i j+1),j) (.of (.cons Y (.cons Y (.cons Y (.cons Y (.cons (svI (show (IntKind.wrap .i64 ((mid i j:Int)+1))=(((mid i j+1):Int)) by first | rfl | omega | (have h9:=h6 (by omega); exact wrap_le (by omega) (by omega)))) (.r Y)))))) .nil) ⟨(show BsI (fun q=>p (l.getD q default) t) l.length (mid i j+1) j by first | exact BsI.up hI (by omega) c1 | exact BsI.down hI (by omega) c1),(show j - (mid i j+1) < j - i by (have h9:=h6 (by omega); omega))⟩
   ·have c1:=of_decide_eq_false c1
    refine .rs fun k10=>.mv Y<|.as Y<|.z ?_
    exact .here (i,(mid i j)) (.of (.cons Y (.cons Y (.cons Y (.cons Y (.cons Y (.cons (svI (show ((mid i j:Int))=(((mid i j):Int)) by first | rfl | omega | (have h9:=h6 (by omega); exact wrap_le (by omega) (by omega)))) .nil)))))) .nil) ⟨(show BsI (fun q=>p (l.getD q default) t) l.length i (mid i j) by first | exact BsI.up hI (by omega) c1 | exact BsI.down hI (by omega) c1),(show (mid i j) - i < j - i by (have h9:=h6 (by omega); omega))⟩
  ·have c0:=of_decide_eq_false c0
   refine .exit<|.seq ?_
   refine .reg (X:=Unit) (fun ζ=>.of [(6,.one (.d (.v (.int .i64 ((i:Int)))))),(7,.one (.d (.v (.bool ((decide ((i:Int) < (l.length:Int))&&(p (l.getD i default) t) == 0))))))] []) [⟨[9],some 35,[],[]⟩,⟨[9],some 36,[],[]⟩,⟨[8],some 37,[],[]⟩,⟨[36,37],some 38,[],[]⟩,⟨[38],some 39,[],[]⟩,⟨[39,2],some 40,[],[]⟩,⟨[39,0],some 41,[],[]⟩,⟨[39,9],some 42,[],[]⟩,⟨[39,41,42],some 43,[],[]⟩,⟨[39,43],some 44,[],[]⟩,⟨[39,1],some 45,[],[]⟩,⟨[39,40,44,45],some 46,[],[]⟩,⟨[39,46],some 47,[],[]⟩,⟨[39,47],some 48,[],[]⟩,⟨[35],some 6,[],[]⟩,⟨[48],some 7,[],[]⟩] (fun k11=>?_) ?_
   ·skip
    refine .move (.no Y) Y Y Y Y<|.move (.no Y) Y Y Y Y<|.move (.no Y) Y Y Y Y<|.bin (.no Y) Y Y Y Y Y Y<|.moveB (.no Y) Y Y Y Y fun b12 g8_4=>?_
    cases b12
    ·skip
     refine .off Y Y Y Y Y Y Y<|.off Y Y Y Y Y Y Y<|.off Y Y Y Y Y Y Y<|.off Y Y Y Y Y Y Y<|.off Y Y Y Y Y Y Y<|.off Y Y Y Y Y Y Y<|.off Y Y Y Y Y Y Y<|.off Y Y Y Y Y Y Y<|.pick (.no Y) Y Y Y Y Y ?_
     refine .assign (.no Y) Y Y Y Y<|.assign (.no Y) Y Y Y Y ?_
     exact .fin () (.of (.cons Y (.cons (svB (show (false)=((decide ((i:Int) < (l.length:Int))&&(p (l.getD i default) t) == 0)) by first | (simp only [g8_4,Bool.true_or,Bool.false_or,Bool.true_and,Bool.false_and,Bool.not_true,Bool.not_false]; done) | (simp [g8_4]; done) | (exfalso; simp_all; done))) .nil)) .nil)
    ·skip
     refine .move (.on Y Y Y Y Y) Y Y Y Y<|.move (.on Y Y Y Y Y) Y Y Y Y<|.move (.on Y Y Y Y Y) Y Y Y Y<|.indexAddr (.on Y Y Y Y Y) Y (i) t29 Y t62 Y Y Y (.d _ _) Y Y Y (map_get (by first | omega | (have h9:=h6 (by omega); omega) | (have h9:=of_decide_eq_true g8_4; omega))) Y Y<|.load (.on Y Y Y Y Y) Y t62 Y Y (.d _) Y Y Y Y<|.move (.on Y Y Y Y Y) Y Y Y Y<|.callF (.on Y Y Y Y Y) Y (ds:=[.sl false 115 2 (List.map Entry.c ((l.getD i default).token)),.sl false 98 3 (List.map Env.c98 ((l.getD i default).table)),.sl false 115 2 (List.map Entry.c (t))]) (h_p (l.getD i default) t) Y Y Y Y (.own [46,0] .nil) Y Y Y Y Y Y<|.bin (.on Y Y Y Y Y) Y Y Y Y Y Y ?_
     refine .pick (.no Y) Y Y Y Y Y<|.assign (.no Y) Y Y Y Y<|.assign (.no Y) Y Y Y Y ?_
     exact .fin () (.of (.cons Y (.cons (svB (show ((p (l.getD i default) t) == 0)=((decide ((i:Int) < (l.length:Int))&&(p (l.getD i default) t) == 0)) by first | (simp only [g8_4,Bool.true_or,Bool.false_or,Bool.true_and,Bool.false_and,Bool.not_true,Bool.not_false]; done) | (simp [g8_4]; done) | (exfalso; simp_all; done))) .nil)) .nil)
   intro _
   refine .ret ?_
   exact fin0 (.inr Y) (.one (svI (show ((i:Int))=((bsAt (fun q=>p (l.getD q default) t) l.length:Int)) by (rw [BsI.done hI (by omega)]))) (.one (svB (show ((decide ((i:Int) < (l.length:Int))&&(p (l.getD i default) t) == 0))=(decide ((bsAt (fun q=>p (l.getD q default) t) l.length:Int) < (l.length:Int))&&(p (l.getD (bsAt (fun q=>p (l.getD q default) t) l.length) default) t == 0)) by (rw [BsI.done hI (by omega)]))) .nil)) (.dd (.dd .nil)) Y
theorem c_partAt1 (x:Part) (t:List Entry):Trip Tryz.prog 115 [(true,2),(false,1)] (Part.c62 x++[.sl false 115 2 (List.map Entry.c (t))]) [(false,1)] [.v (.int .i64 (tokCmp x.token t))] []:=by
 refine Trip.of Tryz.func115 (by decide) (c:=_) Y Y (Nat.le_of_ble_eq_true Y) Y (AftOk.nil _)<|.sla (t:=0) 0 Y Y fun hs1l=>.sla (t:=0) 1 Y Y fun hs2l=>.sl (t:=1) Y fun hs3l=>.seq<|.rs fun k4=>.g (fun _ τ=>⟨_,.box (.no Y) Y Y Y Y Y τ⟩)<|.as Y<|.z ?_
 refine .seq<|.rs fun k5=>.fp t62 t49 Y<|.ld t49 Y (.ptr _ _ _ _ _ Y) Y<|.mv Y<|.c0 (c_compareTokens x.token t) Y (.dd (.dd .nil)) (.own [8,0] .nil) Y<|.as Y<|.z<|.ret ?_
 exact fin0 (.inr Y) (.one Y .nil) (.dd .nil) Y
theorem c_partAt (l:List Part) (t:List Entry) (hl:l.length≤1048576):Trip Tryz.prog 68 [(false,1),(false,1)] ([.sl false 62 2 (List.map Part.c62 (l))]++[.sl false 115 2 (List.map Entry.c (t))]) [(false,1),(false,1)] [.v (.int .i64 ((partI l t:Int))),.v (.bool (partB l t))] []:=by
 refine Trip.of Tryz.func68 (by decide) (c:=_) Y Y (Nat.le_of_ble_eq_true Y) Y (AftOk.nil _)<|.sl (t:=0) Y fun hs1l=>.sl (t:=1) Y fun hs2l=>.seq<|.rs fun k3=>.as Y<|.as Y<|.z<|.seq ?_
 refine .rs fun k4=>.mv Y<|.mv Y<|.c0 (c_bsearch l t 115 [] [] (fun x0 x1=>tokCmp x0.token x1) (fun x0 x1=>c_partAt1 x0 x1) (by assumption)) Y (.dd (.dd (.dd .nil))) (.own [8,0] (.own [8,1] .nil)) Y<|.g (fun _ τ=>⟨_,.extract (.no Y) Y Y Y Y Y τ⟩)<|.g (fun _ τ=>⟨_,.extract (.no Y) Y Y Y Y Y τ⟩)<|.as Y<|.as Y<|.z ?_
 refine .ret ?_
 exact fin0 (.inr Y) (.one (svI (show ((bsAt (fun q=>(fun x0 x1=>tokCmp x0.token x1) (l.getD q default) t) l.length:Int))=((partI l t:Int)) by rfl)) (.one (svB (show (decide ((bsAt (fun q=>(fun x0 x1=>tokCmp x0.token x1) (l.getD q default) t) l.length:Int) < (l.length:Int))&&((fun x0 x1=>tokCmp x0.token x1) (l.getD (bsAt (fun q=>(fun x0 x1=>tokCmp x0.token x1) (l.getD q default) t) l.length) default) t == 0))=(partB l t) by rfl)) .nil)) (.dd (.dd .nil)) Y
theorem c_partsLeq (a:List Part) (b:List Part) (hb:b.length≤1048576) (hp:∀ i,i < a.length→∀ q,q < b.length→PairOk (a.getD i default).table (b.getD q default).table):Trip Tryz.prog 83 [(false,1),(false,1)] ([.sl false 62 2 (List.map Part.c62 (a))]++[.sl false 62 2 (List.map Part.c62 (b))]) [(false,1)] [.v (.bool (Parts.leq a b))] []:=by
 refine Trip.of Tryz.func83 (by decide) (c:=_) Y Y (Nat.le_of_ble_eq_true Y) Y (AftOk.nil _)<|.sl (t:=0) Y fun hs1l=>.sl (t:=1) Y fun hs2l=>.seq<|.rs fun k3=>.as Y<|.z<|.seq<|.seq ?_
 refine .rs fun k4=>.mv Y<|.g (fun _ τ=>⟨_,.len (.no Y) Y (z:=(a.length:Int)) t29 Y Y Y (.d _ _) (map_len _ _) Y τ⟩)<|.mv Y<|.z<|.block ?_
 refine .loop (X:=Nat) (fun ζ=>.of [(1,.one (.d (.sl false 62 2 (List.map Part.c62 (b))))),(9,.one (.d (.sl false 62 2 (List.map Part.c62 (a))))),(10,.one (.d (.v (.int .i64 ((a.length:Int)))))),(11,.one (.d (.v (.int .i64 ((ζ:Int))))))] []) (fun ζ=>ζ≤a.length∧allTo ζ (fun i=>partB b (a.getD i default).token&&tabLeq (a.getD i default).table (b.getD (partI b (a.getD i default).token) default).table)=true) (fun ζ=>a.length - ζ) ?_ ?_
 ·skip
  exact .here 0 (.of (.cons Y (.cons Y (.cons Y (.cons (svI (show (0)=((0:Int)) by first | rfl | omega | exact wrap_le (by omega) (by omega) | (rw [wrap_le (by omega) (by omega)]; omega))) .nil)))) .nil) (show 0≤a.length∧allTo 0 (fun i=>partB b (a.getD i default).token&&tabLeq (a.getD i default).table (b.getD (partI b (a.getD i default).token) default).table)=true by exact ⟨by omega,rfl⟩)
 ·rintro j hI
  have hI:j≤a.length∧allTo j (fun i=>partB b (a.getD i default).token&&tabLeq (a.getD i default).table (b.getD (partI b (a.getD i default).token) default).table)=true:=hI
  refine .seq<|.rs fun k5=>.bi Y<|.z<|.seq ?_
  refine .cond (t:=decide ((j:Int) < (a.length:Int))) Y (fun c0=>?_) (fun c0=>?_)
  ·have c0:=of_decide_eq_true c0
   refine .skip<|.seq<|.block<|.seq<|.rs fun k6=>.g (fun _ τ=>⟨_,.indexAddr (.no Y) Y (j) t29 Y t62 Y Y Y (.d _ _) Y Y Y (map_get (by first | omega | exact partB_lt (by simpa using g5_2))) Y Y τ⟩)<|.lda t62 Y (.d _) Y<|.g (fun _ τ=>⟨_,.alloc (.no Y) Y z62 Y Y Y τ⟩)<|.g (fun _ τ=>⟨_,.store (.no Y) Y t62 Y Y Y Y Y Y Y Y Y τ⟩) ?_
   refine .z<|.seq<|.rs fun k7=>.mv Y<|.fp t62 t49 Y<|.ld t49 Y (.ptr _ _ _ _ _ Y) Y<|.c0 (c_partAt b ((a.getD j default).token) (by first | assumption | (have h7:=hp j (by omega) (partI b (a.getD j default).token) (partB_lt (by simpa using g5_2)); first | exact h7.1 | exact h7.2.1 | exact h7.2.2.1 | exact h7.2.2.2))) Y (.dd (.dd .nil)) (.own [19,0] (.own [19,1] .nil)) Y<|.g (fun _ τ=>⟨_,.move (.no Y) Y Y Y Y τ⟩)<|.g (fun _ τ=>⟨_,.extract (.no Y) Y Y Y Y Y τ⟩) ?_
   refine .g (fun _ τ=>⟨_,.extract (.no Y) Y Y Y Y Y τ⟩)<|.as Y<|.as Y<|.z<|.seq ?_
   refine .regD (X:=Unit) (by kernel_rfl) (fun ζ=>.of [(1,.one (.d (.sl false 62 2 (List.map Part.c62 (b))))),(9,.one (.d (.sl false 62 2 (List.map Part.c62 (a))))),(10,.one (.d (.v (.int .i64 ((a.length:Int)))))),(11,.one (.d (.v (.int .i64 ((j:Int)))))),(34,.one (.d (.v (.bool ((!(partB b ((a.getD j default).token))||!(tabLeq ((a.getD j default).table) ((b.getD (partI b ((a.getD j default).token)) default).table))))))))] []) [⟨[8],some 22,[],[]⟩,⟨[22],some 23,[],[]⟩,⟨[23],some 24,[],[]⟩,⟨[24,6],some 25,[],[]⟩,⟨[24,25],some 26,[[6]],[]⟩,⟨[24,1],some 27,[],[]⟩,⟨[24,7],some 28,[],[]⟩,⟨[24,27,28],some 29,[],[]⟩,⟨[24,29],some 30,[],[]⟩,⟨[24,30],some 31,[],[]⟩,⟨[24,26,31],some 32,[],[]⟩,⟨[24,32],some 33,[],[]⟩,⟨[24,33],some 34,[],[]⟩] (by kernel_rfl) (fun k8=>?_) ?_
   ·skip
    refine .move (.no Y) Y Y Y Y<|.un (.no Y) Y Y Y Y Y<|.moveB (.no Y) Y Y Y Y fun b9 g5_2=>?_
    cases b9
    ·skip
     refine .fieldAddrP (.on Y Y Y Y Y) Y t62 Y Y t60 Y Y Y Y<|.load (.on Y Y Y Y Y) Y t60 Y Y (.ptr _ _ _ _ _ Y) Y Y Y Y<|.move (.on Y Y Y Y Y) Y Y Y Y<|.move (.on Y Y Y Y Y) Y Y Y Y<|.indexAddr (.on Y Y Y Y Y) Y (partI b ((a.getD j default).token)) t29 Y t62 Y Y Y (.d _ _) Y Y Y (map_get (by first | omega | exact partB_lt (by simpa using g5_2))) Y Y<|.fieldAddr (.on Y Y Y Y Y) Y t62 Y Y t60 Y Y Y Y [] (by simp) (by intro _ _ _ h; cases h) Y Y<|.load (.on Y Y Y Y Y) Y t60 Y Y (.d _) Y Y Y Y ?_
     refine .call (.on Y Y Y Y Y) Y [] [] (c_tableLeq ((a.getD j default).table) ((b.getD (partI b ((a.getD j default).token)) default).table) (by first | assumption | (have h7:=hp j (by omega) (partI b (a.getD j default).token) (partB_lt (by simpa using g5_2)); first | exact h7.1 | exact h7.2.1 | exact h7.2.2.1 | exact h7.2.2.2)) (by first | assumption | (have h7:=hp j (by omega) (partI b (a.getD j default).token) (partB_lt (by simpa using g5_2)); first | exact h7.1 | exact h7.2.1 | exact h7.2.2.1 | exact h7.2.2.2)) (by first | assumption | (have h7:=hp j (by omega) (partI b (a.getD j default).token) (partB_lt (by simpa using g5_2)); first | exact h7.1 | exact h7.2.1 | exact h7.2.2.1 | exact h7.2.2.2)) (by first | assumption | (have h7:=hp j (by omega) (partI b (a.getD j default).token) (partB_lt (by simpa using g5_2)); first | exact h7.1 | exact h7.2.1 | exact h7.2.2.1 | exact h7.2.2.2))) Y Y Y Y Y (.dd (.dd .nil)) Y Y (fun h=>absurd Y h) (.own [32,0] .nil) (.nil) Y Y Y (by simp) Y Y Y ?_
     refine .un (.on Y Y Y Y Y) Y Y Y Y Y<|.pick (.no Y) Y Y Y Y Y ?_
     exact .fin () (.of (.cons Y (.cons Y (.cons Y (.cons Y (.cons (svB (show (!(tabLeq ((a.getD j default).table) ((b.getD (partI b ((a.getD j default).token)) default).table)))=((!(partB b ((a.getD j default).token))||!(tabLeq ((a.getD j default).table) ((b.getD (partI b ((a.getD j default).token)) default).table)))) by first | (simp only [g5_2,Bool.true_or,Bool.false_or,Bool.true_and,Bool.false_and,Bool.not_true,Bool.not_false]; done) | (simp [g5_2]; done) | (exfalso; simp_all; done))) .nil))))) .nil)
    ·skip
     refine .off Y Y Y Y Y Y Y<|.off Y Y Y Y Y Y Y<|.off Y Y Y Y Y Y Y<|.off Y Y Y Y Y Y Y<|.off Y Y Y Y Y Y Y<|.off Y Y Y Y Y Y Y<|.off Y Y Y Y Y Y Y<|.off Y Y Y Y Y Y Y<|.off Y Y Y Y Y Y Y ?_
     refine .pick (.no Y) Y Y Y Y Y ?_
     exact .fin () (.of (.cons Y (.cons Y (.cons Y (.cons Y (.cons (svB (show (true)=((!(partB b ((a.getD j default).token))||!(tabLeq ((a.getD j default).table) ((b.getD (partI b ((a.getD j default).token)) default).table)))) by first | (simp only [g5_2,Bool.true_or,Bool.false_or,Bool.true_and,Bool.false_and,Bool.not_true,Bool.not_false]; done) | (simp [g5_2]; done) | (exfalso; simp_all; done))) .nil))))) .nil)
   intro _
   refine .cond (t:=(!(partB b ((a.getD j default).token))||!(tabLeq ((a.getD j default).table) ((b.getD (partI b ((a.getD j default).token)) default).table)))) Y (fun c1=>?_) (fun c1=>?_)
   ·have c1:=(oT (nT id) (nT id)) c1
    refine .seq<|.rs fun k10=>.as Y<|.z<|.ret ?_
    exact fin0 (.inr Y) (.one (svB (show (false)=(Parts.leq a b) by (rw [leq_fail (j:=j) (by omega) c1]))) .nil) (.dd .nil) Y
   ·have c1:=(oF (nF id) (nF id)) c1
    refine .skip<|.rs fun k12=>.bi Y<|.mv Y<|.z ?_
    exact .here (j+1) (.of (.cons Y (.cons Y (.cons Y (.cons (svI (show (IntKind.wrap .i64 ((j:Int)+1))=(((j+1):Int)) by first | rfl | omega | exact wrap_le (by omega) (by omega) | (rw [wrap_le (by omega) (by omega)]; omega))) .nil)))) .nil) ⟨(show (j+1)≤a.length∧allTo (j+1) (fun i=>partB b (a.getD i default).token&&tabLeq (a.getD i default).table (b.getD (partI b (a.getD i default).token) default).table)=true by exact ⟨by omega,allTo_step hI.2 (by rw [c1.1,c1.2]; rfl)⟩),(show a.length - (j+1) < a.length - j by omega)⟩
  ·have c0:=of_decide_eq_false c0
   refine .exit<|.seq<|.rs fun k13=>.as Y<|.z<|.ret ?_
   exact fin0 (.inr Y) (.one (svB (show (true)=(Parts.leq a b) by (unfold Parts.leq; exact (allTo_le (by omega) hI.2).symm))) .nil) (.dd .nil) Y
theorem c_areBoth (d:Decl) (a:List Part) (b:List Part) (hs:∀ x∈Decl.names d,x.size≤9223372036854775807) (hb:d.vars.length≤1048576∧d.flags.length≤1048576∧d.arrays.length≤1048576):Trip Tryz.prog 46 [(true,3),(false,1),(false,1)] (Decl.c33 d++[.sl false 62 2 (List.map Part.c62 (a))]++[.sl false 62 2 (List.map Part.c62 (b))]) [(false,1)] [.v (.bool (Parts.ok d a&&Parts.isIn d b))] []:=by
 refine Trip.of Tryz.func46 (by decide) (c:=_) Y Y (Nat.le_of_ble_eq_true Y) Y (AftOk.nil _)<|.sla (t:=0) 0 Y Y fun hs1l=>.sla (t:=0) 1 Y Y fun hs2l=>.sla (t:=0) 2 Y Y fun hs3l=>.sl (t:=1) Y fun hs4l=>.sl (t:=2) Y fun hs5l=>.seq<|.rs fun k6=>.g (fun _ τ=>⟨_,.box (.no Y) Y Y Y Y Y τ⟩) ?_
 refine .as Y<|.z<|.seq ?_
 refine .reg (X:=Unit) (fun ζ=>.of [(6,.one (.d (.v (.bool ((Parts.ok d a&&Parts.isIn d b))))))] []) [⟨[3],some 7,[[3]],[]⟩,⟨[1],some 8,[],[]⟩,⟨[7,8],some 9,[],[]⟩,⟨[9],some 10,[],[]⟩,⟨[10,3],some 11,[[3]],[]⟩,⟨[10,2],some 12,[],[]⟩,⟨[10,11,12],some 13,[],[]⟩,⟨[10,13],some 14,[],[]⟩,⟨[14],some 6,[],[]⟩] (fun k7=>?_) ?_
 ·skip
  refine .load (.no Y) Y t33 Y Y (.ptr _ _ _ _ _ Y) Y Y Y Y<|.move (.no Y) Y Y Y Y<|.call (.no Y) Y [] [] (c_PartsOk d a (by assumption) (by assumption)) Y Y Y Y Y (.dd (.dd (.dd (.dd .nil)))) Y Y (fun h=>absurd Y h) (.own [9,0] .nil) (.nil) Y Y Y (by simp) Y Y Y<|.moveB (.no Y) Y Y Y Y fun b8 g1_3=>?_
  cases b8
  ·skip
   refine .off Y Y Y Y Y Y Y<|.off Y Y Y Y Y Y Y<|.off Y Y Y Y Y Y Y<|.pick (.no Y) Y Y Y Y Y<|.assign (.no Y) Y Y Y Y ?_
   exact .fin () (.of (.cons (svB (show (false)=((Parts.ok d a&&Parts.isIn d b)) by first | (simp only [g1_3,Bool.true_or,Bool.false_or,Bool.true_and,Bool.false_and,Bool.not_true,Bool.not_false]; done) | (simp [g1_3]; done) | (exfalso; simp_all; done))) .nil) .nil)
  ·skip
   refine .load (.on Y Y Y Y Y) Y t33 Y Y (.ptr _ _ _ _ _ Y) Y Y Y Y<|.move (.on Y Y Y Y Y) Y Y Y Y<|.call (.on Y Y Y Y Y) Y [] [] (c_areParts d b) Y Y Y Y Y (.dd (.dd (.dd (.dd .nil)))) Y Y (fun h=>absurd Y h) (.own [13,0] .nil) (.nil) Y Y Y (by simp) Y Y Y<|.pick (.no Y) Y Y Y Y Y<|.assign (.no Y) Y Y Y Y ?_
   exact .fin () (.of (.cons (svB (show (Parts.isIn d b)=((Parts.ok d a&&Parts.isIn d b)) by first | (simp only [g1_3,Bool.true_or,Bool.false_or,Bool.true_and,Bool.false_and,Bool.not_true,Bool.not_false]; done) | (simp [g1_3]; done) | (exfalso; simp_all; done))) .nil) .nil)
 intro _
 refine .ret ?_
 exact fin0 (.inr Y) (.one (svB (show ((Parts.ok d a&&Parts.isIn d b))=(Parts.ok d a&&Parts.isIn d b) by rfl)) .nil) (.dd .nil) Y
theorem c_sPartsLeq (d:Decl) (a:List Part) (b:List Part) (hs:∀ x∈Decl.names d,x.size≤9223372036854775807) (hd:d.vars.length≤1048576∧d.flags.length≤1048576∧d.arrays.length≤1048576) (hx:SmallP a) (hy:SmallP b):Trip Tryz.prog 37 [(true,3),(false,1),(false,1)] (Decl.c33 d++[.sl false 62 2 (List.map Part.c62 (a))]++[.sl false 62 2 (List.map Part.c62 (b))]) [(false,1)] [.v (.bool (Parts.leqIn d a b))] []:=by
 refine Trip.of Tryz.func37 (by decide) (c:=_) Y Y (Nat.le_of_ble_eq_true Y) Y (AftOk.nil _)<|.sla (t:=0) 0 Y Y fun hs1l=>.sla (t:=0) 1 Y Y fun hs2l=>.sla (t:=0) 2 Y Y fun hs3l=>.sl (t:=1) Y fun hs4l=>.sl (t:=2) Y fun hs5l=>.seq<|.rs fun k6=>.g (fun _ τ=>⟨_,.box (.no Y) Y Y Y Y Y τ⟩) ?_
 refine .as Y<|.z<|.seq ?_
 refine .reg (X:=Unit) (fun ζ=>.of [(6,.one (.d (.v (.bool (((Parts.ok d a&&Parts.ok d b)&&Parts.leqS a b))))))] []) [⟨[3],some 7,[[3]],[]⟩,⟨[1],some 8,[],[]⟩,⟨[7,8],some 9,[],[]⟩,⟨[9],some 10,[],[]⟩,⟨[10,3],some 11,[[3]],[]⟩,⟨[10,2],some 12,[],[]⟩,⟨[10,11,12],some 13,[],[]⟩,⟨[10,13],some 14,[],[]⟩,⟨[14],some 15,[],[]⟩,⟨[15,1],some 16,[],[]⟩,⟨[15,2],some 17,[],[]⟩,⟨[15,16,17],some 18,[],[]⟩,⟨[15,18],some 19,[],[]⟩,⟨[19],some 6,[],[]⟩] (fun k7=>?_) ?_
 ·skip
  refine .load (.no Y) Y t33 Y Y (.ptr _ _ _ _ _ Y) Y Y Y Y<|.move (.no Y) Y Y Y Y ?_
  refine .call (.no Y) Y [] [] (c_sPartsOk d a (by first | assumption | exact fun i hi=>Part.ok_tok ((Parts.get (Parts.ok_in g1_8)).2.2 i hi) | exact fun i hi=>Part.ok_tok ((Parts.get (Parts.ok_in g1_3)).2.2 i hi) | exact pair_of (Parts.ok_in g1_3) (Parts.ok_in g1_8) hx hy) (by first | assumption | exact fun i hi=>Part.ok_tok ((Parts.get (Parts.ok_in g1_8)).2.2 i hi) | exact fun i hi=>Part.ok_tok ((Parts.get (Parts.ok_in g1_3)).2.2 i hi) | exact pair_of (Parts.ok_in g1_3) (Parts.ok_in g1_8) hx hy) (by first | assumption | exact fun i hi=>Part.ok_tok ((Parts.get (Parts.ok_in g1_8)).2.2 i hi) | exact fun i hi=>Part.ok_tok ((Parts.get (Parts.ok_in g1_3)).2.2 i hi) | exact pair_of (Parts.ok_in g1_3) (Parts.ok_in g1_8) hx hy)) Y Y Y Y Y (.dd (.dd (.dd (.dd .nil)))) Y Y (fun h=>absurd Y h) (.own [9,0] .nil) (.nil) Y Y Y (by simp) Y Y Y ?_
  refine .moveB (.no Y) Y Y Y Y fun b8 g1_3=>?_
  cases b8
  ·skip
   refine .off Y Y Y Y Y Y Y<|.off Y Y Y Y Y Y Y<|.off Y Y Y Y Y Y Y<|.pick (.no Y) Y Y Y Y Y<|.move (.no Y) Y Y Y Y<|.off Y Y Y Y Y Y Y<|.off Y Y Y Y Y Y Y<|.off Y Y Y Y Y Y Y<|.pick (.no Y) Y Y Y Y Y ?_
   refine .assign (.no Y) Y Y Y Y ?_
   exact .fin () (.of (.cons (svB (show (false)=(((Parts.ok d a&&Parts.ok d b)&&Parts.leqS a b)) by first | (simp only [g1_3,Bool.true_or,Bool.false_or,Bool.true_and,Bool.false_and,Bool.not_true,Bool.not_false]; done) | (simp [g1_3]; done) | (exfalso; simp_all; done))) .nil) .nil)
  ·skip
   refine .load (.on Y Y Y Y Y) Y t33 Y Y (.ptr _ _ _ _ _ Y) Y Y Y Y<|.move (.on Y Y Y Y Y) Y Y Y Y ?_
   refine .call (.on Y Y Y Y Y) Y [] [] (c_sPartsOk d b (by first | assumption | exact fun i hi=>Part.ok_tok ((Parts.get (Parts.ok_in g1_8)).2.2 i hi) | exact fun i hi=>Part.ok_tok ((Parts.get (Parts.ok_in g1_3)).2.2 i hi) | exact pair_of (Parts.ok_in g1_3) (Parts.ok_in g1_8) hx hy) (by first | assumption | exact fun i hi=>Part.ok_tok ((Parts.get (Parts.ok_in g1_8)).2.2 i hi) | exact fun i hi=>Part.ok_tok ((Parts.get (Parts.ok_in g1_3)).2.2 i hi) | exact pair_of (Parts.ok_in g1_3) (Parts.ok_in g1_8) hx hy) (by first | assumption | exact fun i hi=>Part.ok_tok ((Parts.get (Parts.ok_in g1_8)).2.2 i hi) | exact fun i hi=>Part.ok_tok ((Parts.get (Parts.ok_in g1_3)).2.2 i hi) | exact pair_of (Parts.ok_in g1_3) (Parts.ok_in g1_8) hx hy)) Y Y Y Y Y (.dd (.dd (.dd (.dd .nil)))) Y Y (fun h=>absurd Y h) (.own [13,0] .nil) (.nil) Y Y Y (by simp) Y Y Y ?_
   refine .pick (.no Y) Y Y Y Y Y<|.moveB (.no Y) Y Y Y Y fun b9 g1_8=>?_
   cases b9
   ·skip
    refine .off Y Y Y Y Y Y Y<|.off Y Y Y Y Y Y Y<|.off Y Y Y Y Y Y Y<|.pick (.no Y) Y Y Y Y Y<|.assign (.no Y) Y Y Y Y ?_
    exact .fin () (.of (.cons (svB (show (false)=(((Parts.ok d a&&Parts.ok d b)&&Parts.leqS a b)) by first | (simp only [g1_3,g1_8,Bool.true_or,Bool.false_or,Bool.true_and,Bool.false_and,Bool.not_true,Bool.not_false]; done) | (simp [g1_3,g1_8]; done) | (exfalso; simp_all; done))) .nil) .nil)
   ·skip
    refine .move (.on Y Y Y Y Y) Y Y Y Y<|.move (.on Y Y Y Y Y) Y Y Y Y ?_
    refine .call (.on Y Y Y Y Y) Y [] [] (c_l9Leq a b (by first | assumption | exact fun i hi=>Part.ok_tok ((Parts.get (Parts.ok_in g1_8)).2.2 i hi) | exact fun i hi=>Part.ok_tok ((Parts.get (Parts.ok_in g1_3)).2.2 i hi) | exact pair_of (Parts.ok_in g1_3) (Parts.ok_in g1_8) hx hy) (by first | assumption | exact fun i hi=>Part.ok_tok ((Parts.get (Parts.ok_in g1_8)).2.2 i hi) | exact fun i hi=>Part.ok_tok ((Parts.get (Parts.ok_in g1_3)).2.2 i hi) | exact pair_of (Parts.ok_in g1_3) (Parts.ok_in g1_8) hx hy) (by first | assumption | exact fun i hi=>Part.ok_tok ((Parts.get (Parts.ok_in g1_8)).2.2 i hi) | exact fun i hi=>Part.ok_tok ((Parts.get (Parts.ok_in g1_3)).2.2 i hi) | exact pair_of (Parts.ok_in g1_3) (Parts.ok_in g1_8) hx hy)) Y Y Y Y Y (.dd (.dd .nil)) Y Y (fun h=>absurd Y h) (.own [18,0] .nil) (.nil) Y Y Y (by simp) Y Y Y ?_
    refine .pick (.no Y) Y Y Y Y Y<|.assign (.no Y) Y Y Y Y ?_
    exact .fin () (.of (.cons (svB (show (Parts.leqS a b)=(((Parts.ok d a&&Parts.ok d b)&&Parts.leqS a b)) by first | (simp only [g1_3,g1_8,Bool.true_or,Bool.false_or,Bool.true_and,Bool.false_and,Bool.not_true,Bool.not_false]; done) | (simp [g1_3,g1_8]; done) | (exfalso; simp_all; done))) .nil) .nil)
 intro _
 refine .ret ?_
 exact fin0 (.inr Y) (.one (svB (show (((Parts.ok d a&&Parts.ok d b)&&Parts.leqS a b))=(Parts.leqIn d a b) by exact Parts.leqIn_spec)) .nil) (.dd .nil) Y
theorem c_PartsLeq (d:Decl) (a:List Part) (b:List Part) (hs:∀ x∈Decl.names d,x.size≤9223372036854775807) (hd:d.vars.length≤1048576∧d.flags.length≤1048576∧d.arrays.length≤1048576) (hx:SmallP a) (hy:SmallP b):Trip Tryz.prog 34 [(true,3),(false,1),(false,1)] (Decl.c33 d++[.sl false 62 2 (List.map Part.c62 (a))]++[.sl false 62 2 (List.map Part.c62 (b))]) [(false,1)] [.v (.bool (Parts.leqIn d a b))] []:=by
 refine Trip.of Tryz.func34 (by decide) (c:=_) Y Y (Nat.le_of_ble_eq_true Y) Y (AftOk.nil _)<|.sla (t:=0) 0 Y Y fun hs1l=>.sla (t:=0) 1 Y Y fun hs2l=>.sla (t:=0) 2 Y Y fun hs3l=>.sl (t:=1) Y fun hs4l=>.sl (t:=2) Y fun hs5l=>.seq<|.rs fun k6=>.g (fun _ τ=>⟨_,.box (.no Y) Y Y Y Y Y τ⟩) ?_
 refine .as Y<|.z<|.seq ?_
 refine .reg (X:=Unit) (fun ζ=>.of [(6,.one (.d (.v (.bool ((Parts.ok d a&&Parts.isIn d b&&Parts.leq a b))))))] []) [⟨[3],some 7,[[3]],[]⟩,⟨[1],some 8,[],[]⟩,⟨[2],some 9,[],[]⟩,⟨[7,8,9],some 10,[],[]⟩,⟨[10],some 11,[],[]⟩,⟨[11,1],some 12,[],[]⟩,⟨[11,2],some 13,[],[]⟩,⟨[11,12,13],some 14,[],[]⟩,⟨[11,14],some 15,[],[]⟩,⟨[15],some 6,[],[]⟩] (fun k7=>?_) ?_
 ·skip
  refine .load (.no Y) Y t33 Y Y (.ptr _ _ _ _ _ Y) Y Y Y Y<|.move (.no Y) Y Y Y Y<|.move (.no Y) Y Y Y Y<|.call (.no Y) Y [] [] (c_areBoth d a b (by first | assumption | exact hy.1 | exact pair_of (Parts.ok_in (Bool.and_eq_true_iff.1 g1_4).1) (Bool.and_eq_true_iff.1 g1_4).2 hx hy) (by first | assumption | exact hy.1 | exact pair_of (Parts.ok_in (Bool.and_eq_true_iff.1 g1_4).1) (Bool.and_eq_true_iff.1 g1_4).2 hx hy)) Y Y Y Y Y (.dd (.dd (.dd (.dd (.dd .nil))))) Y Y (fun h=>absurd Y h) (.own [10,0] .nil) (.nil) Y Y Y (by simp) Y Y Y<|.moveB (.no Y) Y Y Y Y fun b8 g1_4=>?_
  cases b8
  ·skip
   refine .off Y Y Y Y Y Y Y<|.off Y Y Y Y Y Y Y<|.off Y Y Y Y Y Y Y<|.pick (.no Y) Y Y Y Y Y<|.assign (.no Y) Y Y Y Y ?_
   exact .fin () (.of (.cons (svB (show (false)=((Parts.ok d a&&Parts.isIn d b&&Parts.leq a b)) by first | (simp only [g1_4,Bool.true_or,Bool.false_or,Bool.true_and,Bool.false_and,Bool.not_true,Bool.not_false]; done) | (simp [g1_4]; done) | (exfalso; simp_all; done))) .nil) .nil)
  ·skip
   refine .move (.on Y Y Y Y Y) Y Y Y Y<|.move (.on Y Y Y Y Y) Y Y Y Y<|.call (.on Y Y Y Y Y) Y [] [] (c_partsLeq a b (by first | assumption | exact hy.1 | exact pair_of (Parts.ok_in (Bool.and_eq_true_iff.1 g1_4).1) (Bool.and_eq_true_iff.1 g1_4).2 hx hy) (by first | assumption | exact hy.1 | exact pair_of (Parts.ok_in (Bool.and_eq_true_iff.1 g1_4).1) (Bool.and_eq_true_iff.1 g1_4).2 hx hy)) Y Y Y Y Y (.dd (.dd .nil)) Y Y (fun h=>absurd Y h) (.own [14,0] .nil) (.nil) Y Y Y (by simp) Y Y Y<|.pick (.no Y) Y Y Y Y Y<|.assign (.no Y) Y Y Y Y ?_
   exact .fin () (.of (.cons (svB (show (Parts.leq a b)=((Parts.ok d a&&Parts.isIn d b&&Parts.leq a b)) by first | (simp only [g1_4,Bool.true_or,Bool.false_or,Bool.true_and,Bool.false_and,Bool.not_true,Bool.not_false]; done) | (simp [g1_4]; done) | (exfalso; simp_all; done))) .nil) .nil)
 intro _
 refine .ret ?_
 exact fin0 (.inr Y) (.one (svB (show ((Parts.ok d a&&Parts.isIn d b&&Parts.leq a b))=(Parts.leqIn d a b) by rfl)) .nil) (.dd .nil) Y
end Go.Proofs

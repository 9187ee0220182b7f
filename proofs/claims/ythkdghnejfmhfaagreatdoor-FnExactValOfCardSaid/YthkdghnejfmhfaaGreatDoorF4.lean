/- Contracts of the program's functions at this seat, printed by a program of ours and checked by Lean: each under the conditions of its own statement. -/
import Derived.Test.YthkdghnejfmhfaaGreatDoorF3
set_option linter.all false
set_option linter.unnecessarySimpa false
set_option linter.unusedSectionVars false
set_option linter.unusedSimpArgs false
set_option linter.unusedVariables false
namespace Go.Proofs
open Go Go.Proofs Go.Ev

set_option maxHeartbeats 8000000 in
theorem c_l2Ends (n:List Int) (o:List Int) (hl:n.length=o.length∧n.length≤1048576):Trip Tryz.prog 170 [(false,1),(false,1)] ([.sl false 2 1 (List.map i64c (n))]++[.sl false 2 1 (List.map i64c (o))]) [(true,4)] [.v (.int .i64 (((endV n o).iv).lo)),.v (.int .i64 (((endV n o).iv).hi)),.v (.bool ((endV n o).live)),.v (.int .i64 ((endV n o).alarms))] []:=by
 refine Trip.of Tryz.func170 (by decide) (c:=_) Y Y (Nat.le_of_ble_eq_true Y) Y (AftOk.nil _)<|.sl (t:=0) Y fun hs1l=>.sl (t:=1) Y fun hs2l=>.seq<|.rs fun k3=>.g (fun _ τ=>⟨_,.alloc (.no Y) Y z36 Y Y Y τ⟩)<|.z<|.seq<|.seq ?_
 refine .rs fun k4=>.mv Y<|.g (fun _ τ=>⟨_,.len (.no Y) Y (z:=(n.length:Int)) t62 Y Y Y (.d _ _) (map_len _ _) Y τ⟩)<|.bi Y<|.z ?_
 refine .cond (t:=(n.length:Int) == 0) Y (fun c0=>?_) (fun c0=>?_)
 ·have c0:=(by simpa using c0:(n.length:Int)=0)
  refine .seq<|.rs fun k5=>.g (fun _ τ=>⟨_,.build (.no Y) Y z36 Y p36 Y Y Y Y τ⟩)<|.g (fun _ τ=>⟨_,.store (.no Y) Y t36 Y Y Y Y Y Y Y Y Y τ⟩)<|.z<|.ret ?_
  have e6:(0)=(((endV n o).iv).lo):=by first | (unfold endV; rw [if_pos c0])
  have e7:(0)=(((endV n o).iv).hi):=by first | (unfold endV; rw [if_pos c0])
  have e8:(false)=((endV n o).live):=by first | (unfold endV; rw [if_pos c0])
  have e9:(0)=((endV n o).alarms):=by first | (unfold endV; rw [if_pos c0])
  have hc10:=eq4 (fun z1 z2 z3 z4=>some (k3,k5+1,O.box [.d (.v (.int .i64 (z1))),.d (.v (.int .i64 (z2))),.d (.v (.bool (z3))),.d (.v (.int .i64 (z4)))])) e6 e7 e8 e9
  exact fin0 (.inr Y) (.cell (cells:=[.d (.v (.int .i64 (((endV n o).iv).lo))),.d (.v (.int .i64 (((endV n o).iv).hi))),.d (.v (.bool ((endV n o).live))),.d (.v (.int .i64 ((endV n o).alarms)))]) Y hc10 t36 Y Y .nil) (.dd (.dd (.dd (.dd .nil)))) Y
 ·have c0:=(by simpa using c0:¬ ((n.length:Int)=0))
  have hn9:0 < n.length:=(by omega)
  refine .skip<|.seq<|.rs fun k11=>.as Y<|.z<|.seq<|.rs fun k12=>.as Y<|.z ?_
  refine .seq<|.rs fun k13=>.g (fun _ τ=>⟨_,.build (.no Y) Y z36 Y p36 Y Y Y Y τ⟩)<|.g (fun _ τ=>⟨_,.alloc (.no Y) Y z36 Y Y Y τ⟩)<|.g (fun _ τ=>⟨_,.store (.no Y) Y t36 Y Y Y Y Y Y Y Y Y τ⟩)<|.z<|.seq<|.seq<|.rs fun k14=>?_
  refine .as Y<|.z<|.block ?_
  refine .loop (X:=Nat × Nat) (fun ζ=>.of [(0,.one (.d (.sl false 2 1 (List.map i64c (n))))),(1,.one (.d (.sl false 2 1 (List.map i64c (o))))),(4,.one (.ptr [4] (k3) 0)),(5,.one (.d (.v (.int .i64 ((loX n o ζ.1:Int)))))),(6,.one (.d (.v (.int .i64 ((hiX n o ζ.1:Int)))))),(7,.one (.ptr [7] (k13+1) 0)),(8,.one (.d (.v (.int .i64 ((ζ.1:Int))))))] [([4],(k3,k3,.box [.d (.v (.int .i64 (0))),.d (.v (.int .i64 (0))),.d (.v (.bool (false))),.d (.v (.int .i64 (0)))])),([7],(k13+1,ζ.2,.box [.d (.v (.int .i64 (0))),.d (.v (.int .i64 (0))),.d (.v (.bool (false))),.d (.v (.int .i64 (alX o ζ.1)))]))]) (fun ζ=>ζ.1≤n.length) (fun ζ=>n.length - ζ.1) ?_ ?_
  ·skip
   exact .here (0,(k13+1+1)) (.of (.cons Y (.cons Y (.cons Y (.cons (svI (show (0)=((loX n o 0:Int)) by first | exact lo_1 c3 | exact lo_0 c3 | exact hi_1 c4 | exact hi_0 c4 | rfl | omega | exact wrap_le (by omega) (by omega))) (.cons (svI (show (0)=((hiX n o 0:Int)) by first | exact lo_1 c3 | exact lo_0 c3 | exact hi_1 c4 | exact hi_0 c4 | rfl | omega | exact wrap_le (by omega) (by omega))) (.cons Y (.cons (svI (show (0)=((0:Int)) by first | exact lo_1 c3 | exact lo_0 c3 | exact hi_1 c4 | exact hi_0 c4 | rfl | omega | exact wrap_le (by omega) (by omega))) .nil))))))) (.cons Y (.cons (eq1 (fun z1=>some (k13+1,k13+1+1,O.box [.d (.v (.int .i64 (0))),.d (.v (.int .i64 (0))),.d (.v (.bool (false))),.d (.v (.int .i64 (z1)))])) (show (0)=(alX o 0) by first | exact alX_1 c2 | exact alX_0 c2 | rfl)) .nil))) (show 0≤n.length by omega)
  ·rintro ⟨j,q15⟩ hI
   have hI:j≤n.length:=hI
   have hx9:=loX_lt (n:=n) (o:=o) j hI hn9
   have hy9:=hiX_lt (n:=n) (o:=o) j hI hn9
   dsimp only
   refine .seq<|.seq<|.rs fun k16=>.mv Y<|.mv Y<|.g (fun _ τ=>⟨_,.len (.no Y) Y (z:=(n.length:Int)) t62 Y Y Y (.d _ _) (map_len _ _) Y τ⟩)<|.bi Y<|.z ?_
   refine .cond (t:=decide ((j:Int) < (n.length:Int))) Y (fun c1=>?_) (fun c1=>?_)
   ·have c1:=of_decide_eq_true c1
    refine .skip<|.seq<|.block<|.seq<|.seq<|.rs fun k17=>.mv Y<|.mv Y<|.g (fun _ τ=>⟨_,.indexAddr (.no Y) Y (j) t62 Y t2 Y Y Y (.d _ _) Y Y Y (map_get (by omega)) Y Y τ⟩) ?_
    refine .ld t2 Y (.d _) Y<|.bi Y<|.z ?_
    refine .cond (t:=(o.getD j default) != 0) Y (fun c2=>?_) (fun c2=>?_)
    ·have c2:=(by simpa using c2:¬ ((o.getD j default)=0))
     refine .rs fun k18=>.fp t36 t2 Y<|.g (fun _ τ=>⟨_,.store (.no Y) Y t2 Y Y Y Y Y Y Y Y Y τ⟩)<|.z<|.seq<|.seq ?_
     refine .regD (X:=Unit) (by kernel_rfl) (fun ζ=>.of [(0,.one (.d (.sl false 2 1 (List.map i64c (n))))),(1,.one (.d (.sl false 2 1 (List.map i64c (o))))),(4,.one (.ptr [4] (k3) 0)),(5,.one (.d (.v (.int .i64 ((loX n o j:Int)))))),(6,.one (.d (.v (.int .i64 ((hiX n o j:Int)))))),(7,.one (.ptr [7] (k13+1) 0)),(8,.one (.d (.v (.int .i64 ((j:Int)))))),(56,.one (.d (.v (.bool ((decide ((o.getD j default) < (o.getD (loX n o j) default))||((o.getD j default) == (o.getD (loX n o j) default)&&decide ((n.getD j default) < (n.getD (loX n o j) default)))))))))] [([4],(k3,k3,.box [.d (.v (.int .i64 (0))),.d (.v (.int .i64 (0))),.d (.v (.bool (false))),.d (.v (.int .i64 (0)))])),([7],(k13+1,k18+1,.box [.d (.v (.int .i64 (0))),.d (.v (.int .i64 (0))),.d (.v (.bool (false))),.d (.v (.int .i64 (4)))]))]) [⟨[1],some 26,[],[]⟩,⟨[8],some 27,[],[]⟩,⟨[26,27],some 28,[],[]⟩,⟨[28],some 29,[],[]⟩,⟨[1],some 30,[],[]⟩,⟨[5],some 31,[],[]⟩,⟨[30,31],some 32,[],[]⟩,⟨[32],some 33,[],[]⟩,⟨[29,33],some 34,[],[]⟩,⟨[34],some 35,[],[]⟩,⟨[35,1],some 36,[],[]⟩,⟨[35,8],some 37,[],[]⟩,⟨[35,36,37],some 38,[],[]⟩,⟨[35,38],some 39,[],[]⟩,⟨[35,1],some 40,[],[]⟩,⟨[35,5],some 41,[],[]⟩,⟨[35,40,41],some 42,[],[]⟩,⟨[35,42],some 43,[],[]⟩,⟨[35,39,43],some 44,[],[]⟩,⟨[35,44],some 45,[],[]⟩,⟨[45,0],some 46,[],[]⟩,⟨[45,8],some 47,[],[]⟩,⟨[45,46,47],some 48,[],[]⟩,⟨[45,48],some 49,[],[]⟩,⟨[45,0],some 50,[],[]⟩,⟨[45,5],some 51,[],[]⟩,⟨[45,50,51],some 52,[],[]⟩,⟨[45,52],some 53,[],[]⟩,⟨[45,49,53],some 54,[],[]⟩,⟨[35,45,54],some 55,[],[]⟩,⟨[35,55],some 56,[],[]⟩] (by kernel_rfl) (fun k19=>?_) ?_
     ·skip
      refine .move (.no Y) Y Y Y Y<|.move (.no Y) Y Y Y Y<|.indexAddr (.no Y) Y (j) t62 Y t2 Y Y Y (.d _ _) Y Y Y (map_get (by omega)) Y Y<|.load (.no Y) Y t2 Y Y (.d _) Y Y Y Y<|.move (.no Y) Y Y Y Y<|.move (.no Y) Y Y Y Y<|.indexAddr (.no Y) Y (loX n o j) t62 Y t2 Y Y Y (.d _ _) Y Y Y (map_get (by omega)) Y Y<|.load (.no Y) Y t2 Y Y (.d _) Y Y Y Y<|.bin (.no Y) Y Y Y Y Y Y ?_
      refine .moveB (.no Y) Y Y Y Y fun b20 g11_9=>?_
      cases b20
      ·skip
       refine .move (.on Y Y Y Y Y) Y Y Y Y<|.move (.on Y Y Y Y Y) Y Y Y Y<|.indexAddr (.on Y Y Y Y Y) Y (j) t62 Y t2 Y Y Y (.d _ _) Y Y Y (map_get (by omega)) Y Y<|.load (.on Y Y Y Y Y) Y t2 Y Y (.d _) Y Y Y Y<|.move (.on Y Y Y Y Y) Y Y Y Y<|.move (.on Y Y Y Y Y) Y Y Y Y<|.indexAddr (.on Y Y Y Y Y) Y (loX n o j) t62 Y t2 Y Y Y (.d _ _) Y Y Y (map_get (by omega)) Y Y<|.load (.on Y Y Y Y Y) Y t2 Y Y (.d _) Y Y Y Y<|.bin (.on Y Y Y Y Y) Y Y Y Y Y Y ?_
       refine .moveB (.on Y Y Y Y Y) Y Y Y Y fun b21 g11_19=>?_
       cases b21
       ·skip
        refine .off Y Y Y Y Y Y Y<|.off Y Y Y Y Y Y Y<|.off Y Y Y Y Y Y Y<|.off Y Y Y Y Y Y Y<|.off Y Y Y Y Y Y Y<|.off Y Y Y Y Y Y Y<|.off Y Y Y Y Y Y Y<|.off Y Y Y Y Y Y Y<|.off Y Y Y Y Y Y Y ?_
        refine .pick (.on Y Y Y Y Y) Y Y Y Y Y<|.pick (.no Y) Y Y Y Y Y ?_
        exact .fin () (.of (.cons Y (.cons Y (.cons Y (.cons Y (.cons Y (.cons Y (.cons Y (.cons (svB (show (false)=((decide ((o.getD j default) < (o.getD (loX n o j) default))||((o.getD j default) == (o.getD (loX n o j) default)&&decide ((n.getD j default) < (n.getD (loX n o j) default))))) by first | (simp only [g11_9,g11_19,Bool.true_or,Bool.false_or,Bool.true_and,Bool.false_and,Bool.not_true,Bool.not_false]; done) | (simp [g11_9,g11_19]; done) | (exfalso; simp_all; done))) .nil)))))))) (.r Y))
       ·skip
        refine .move (.on Y Y Y Y Y) Y Y Y Y<|.move (.on Y Y Y Y Y) Y Y Y Y<|.indexAddr (.on Y Y Y Y Y) Y (j) t62 Y t2 Y Y Y (.d _ _) Y Y Y (map_get (by omega)) Y Y<|.load (.on Y Y Y Y Y) Y t2 Y Y (.d _) Y Y Y Y<|.move (.on Y Y Y Y Y) Y Y Y Y<|.move (.on Y Y Y Y Y) Y Y Y Y<|.indexAddr (.on Y Y Y Y Y) Y (loX n o j) t62 Y t2 Y Y Y (.d _ _) Y Y Y (map_get (by omega)) Y Y<|.load (.on Y Y Y Y Y) Y t2 Y Y (.d _) Y Y Y Y<|.bin (.on Y Y Y Y Y) Y Y Y Y Y Y ?_
        refine .pick (.on Y Y Y Y Y) Y Y Y Y Y<|.pick (.no Y) Y Y Y Y Y ?_
        exact .fin () (.of (.cons Y (.cons Y (.cons Y (.cons Y (.cons Y (.cons Y (.cons Y (.cons (svB (show (decide ((n.getD j default) < (n.getD (loX n o j) default)))=((decide ((o.getD j default) < (o.getD (loX n o j) default))||((o.getD j default) == (o.getD (loX n o j) default)&&decide ((n.getD j default) < (n.getD (loX n o j) default))))) by first | (simp only [g11_9,g11_19,Bool.true_or,Bool.false_or,Bool.true_and,Bool.false_and,Bool.not_true,Bool.not_false]; done) | (simp [g11_9,g11_19]; done) | (exfalso; simp_all; done))) .nil)))))))) (.r Y))
      ·skip
       refine .off Y Y Y Y Y Y Y<|.off Y Y Y Y Y Y Y<|.off Y Y Y Y Y Y Y<|.off Y Y Y Y Y Y Y<|.off Y Y Y Y Y Y Y<|.off Y Y Y Y Y Y Y<|.off Y Y Y Y Y Y Y<|.off Y Y Y Y Y Y Y<|.off Y Y Y Y Y Y Y ?_
       refine .off Y Y Y Y Y Y Y<|.off' rfl Y Y Y Y Y<|.off' rfl Y Y Y Y Y<|.off' rfl Y Y Y Y Y<|.off' rfl Y Y Y Y Y<|.off' rfl Y Y Y Y Y<|.off' rfl Y Y Y Y Y<|.off' rfl Y Y Y Y Y<|.off' rfl Y Y Y Y Y ?_
       refine .off' rfl Y Y Y Y Y<|.off Y Y Y Y Y Y Y<|.pick (.no Y) Y Y Y Y Y ?_
       exact .fin () (.of (.cons Y (.cons Y (.cons Y (.cons Y (.cons Y (.cons Y (.cons Y (.cons (svB (show (true)=((decide ((o.getD j default) < (o.getD (loX n o j) default))||((o.getD j default) == (o.getD (loX n o j) default)&&decide ((n.getD j default) < (n.getD (loX n o j) default))))) by first | (simp only [g11_9,Bool.true_or,Bool.false_or,Bool.true_and,Bool.false_and,Bool.not_true,Bool.not_false]; done) | (simp [g11_9]; done) | (exfalso; simp_all; done))) .nil)))))))) (.r Y))
     intro _
     refine .cond (t:=(decide ((o.getD j default) < (o.getD (loX n o j) default))||((o.getD j default) == (o.getD (loX n o j) default)&&decide ((n.getD j default) < (n.getD (loX n o j) default))))) Y (fun c3=>?_) (fun c3=>?_)
     ·have c3:=(oT dT (aT eT dT)) c3
      refine .rs fun k22=>.mv Y<|.as Y<|.z<|.seq ?_
      refine .regD (X:=Unit) (by kernel_rfl) (fun ζ=>.of [(0,.one (.d (.sl false 2 1 (List.map i64c (n))))),(1,.one (.d (.sl false 2 1 (List.map i64c (o))))),(4,.one (.ptr [4] (k3) 0)),(5,.one (.d (.v (.int .i64 ((j:Int)))))),(6,.one (.d (.v (.int .i64 ((hiX n o j:Int)))))),(7,.one (.ptr [7] (k13+1) 0)),(8,.one (.d (.v (.int .i64 ((j:Int)))))),(88,.one (.d (.v (.bool ((decide ((o.getD j default) > (o.getD (hiX n o j) default))||((o.getD j default) == (o.getD (hiX n o j) default)&&decide ((n.getD j default) > (n.getD (hiX n o j) default)))))))))] [([4],(k3,k3,.box [.d (.v (.int .i64 (0))),.d (.v (.int .i64 (0))),.d (.v (.bool (false))),.d (.v (.int .i64 (0)))])),([7],(k13+1,k18+1,.box [.d (.v (.int .i64 (0))),.d (.v (.int .i64 (0))),.d (.v (.bool (false))),.d (.v (.int .i64 (4)))]))]) [⟨[1],some 58,[],[]⟩,⟨[8],some 59,[],[]⟩,⟨[58,59],some 60,[],[]⟩,⟨[60],some 61,[],[]⟩,⟨[1],some 62,[],[]⟩,⟨[6],some 63,[],[]⟩,⟨[62,63],some 64,[],[]⟩,⟨[64],some 65,[],[]⟩,⟨[61,65],some 66,[],[]⟩,⟨[66],some 67,[],[]⟩,⟨[67,1],some 68,[],[]⟩,⟨[67,8],some 69,[],[]⟩,⟨[67,68,69],some 70,[],[]⟩,⟨[67,70],some 71,[],[]⟩,⟨[67,1],some 72,[],[]⟩,⟨[67,6],some 73,[],[]⟩,⟨[67,72,73],some 74,[],[]⟩,⟨[67,74],some 75,[],[]⟩,⟨[67,71,75],some 76,[],[]⟩,⟨[67,76],some 77,[],[]⟩,⟨[77,0],some 78,[],[]⟩,⟨[77,8],some 79,[],[]⟩,⟨[77,78,79],some 80,[],[]⟩,⟨[77,80],some 81,[],[]⟩,⟨[77,0],some 82,[],[]⟩,⟨[77,6],some 83,[],[]⟩,⟨[77,82,83],some 84,[],[]⟩,⟨[77,84],some 85,[],[]⟩,⟨[77,81,85],some 86,[],[]⟩,⟨[67,77,86],some 87,[],[]⟩,⟨[67,87],some 88,[],[]⟩] (by kernel_rfl) (fun k23=>?_) ?_
      ·skip
       refine .move (.no Y) Y Y Y Y<|.move (.no Y) Y Y Y Y<|.indexAddr (.no Y) Y (j) t62 Y t2 Y Y Y (.d _ _) Y Y Y (map_get (by omega)) Y Y<|.load (.no Y) Y t2 Y Y (.d _) Y Y Y Y<|.move (.no Y) Y Y Y Y<|.move (.no Y) Y Y Y Y<|.indexAddr (.no Y) Y (hiX n o j) t62 Y t2 Y Y Y (.d _ _) Y Y Y (map_get (by omega)) Y Y<|.load (.no Y) Y t2 Y Y (.d _) Y Y Y Y<|.bin (.no Y) Y Y Y Y Y Y ?_
       refine .moveB (.no Y) Y Y Y Y fun b24 g13_9=>?_
       cases b24
       ·skip
        refine .move (.on Y Y Y Y Y) Y Y Y Y<|.move (.on Y Y Y Y Y) Y Y Y Y<|.indexAddr (.on Y Y Y Y Y) Y (j) t62 Y t2 Y Y Y (.d _ _) Y Y Y (map_get (by omega)) Y Y<|.load (.on Y Y Y Y Y) Y t2 Y Y (.d _) Y Y Y Y<|.move (.on Y Y Y Y Y) Y Y Y Y<|.move (.on Y Y Y Y Y) Y Y Y Y<|.indexAddr (.on Y Y Y Y Y) Y (hiX n o j) t62 Y t2 Y Y Y (.d _ _) Y Y Y (map_get (by omega)) Y Y<|.load (.on Y Y Y Y Y) Y t2 Y Y (.d _) Y Y Y Y<|.bin (.on Y Y Y Y Y) Y Y Y Y Y Y ?_
        refine .moveB (.on Y Y Y Y Y) Y Y Y Y fun b25 g13_19=>?_
        cases b25
        ·skip
         refine .off Y Y Y Y Y Y Y<|.off Y Y Y Y Y Y Y<|.off Y Y Y Y Y Y Y<|.off Y Y Y Y Y Y Y<|.off Y Y Y Y Y Y Y<|.off Y Y Y Y Y Y Y<|.off Y Y Y Y Y Y Y<|.off Y Y Y Y Y Y Y<|.off Y Y Y Y Y Y Y ?_
         refine .pick (.on Y Y Y Y Y) Y Y Y Y Y<|.pick (.no Y) Y Y Y Y Y ?_
         exact .fin () (.of (.cons Y (.cons Y (.cons Y (.cons Y (.cons Y (.cons Y (.cons Y (.cons (svB (show (false)=((decide ((o.getD j default) > (o.getD (hiX n o j) default))||((o.getD j default) == (o.getD (hiX n o j) default)&&decide ((n.getD j default) > (n.getD (hiX n o j) default))))) by first | (simp only [g13_9,g13_19,Bool.true_or,Bool.false_or,Bool.true_and,Bool.false_and,Bool.not_true,Bool.not_false]; done) | (simp [g13_9,g13_19]; done) | (exfalso; simp_all; done))) .nil)))))))) (.r Y))
        ·skip
         refine .move (.on Y Y Y Y Y) Y Y Y Y<|.move (.on Y Y Y Y Y) Y Y Y Y<|.indexAddr (.on Y Y Y Y Y) Y (j) t62 Y t2 Y Y Y (.d _ _) Y Y Y (map_get (by omega)) Y Y<|.load (.on Y Y Y Y Y) Y t2 Y Y (.d _) Y Y Y Y<|.move (.on Y Y Y Y Y) Y Y Y Y<|.move (.on Y Y Y Y Y) Y Y Y Y<|.indexAddr (.on Y Y Y Y Y) Y (hiX n o j) t62 Y t2 Y Y Y (.d _ _) Y Y Y (map_get (by omega)) Y Y<|.load (.on Y Y Y Y Y) Y t2 Y Y (.d _) Y Y Y Y<|.bin (.on Y Y Y Y Y) Y Y Y Y Y Y ?_
         refine .pick (.on Y Y Y Y Y) Y Y Y Y Y<|.pick (.no Y) Y Y Y Y Y ?_
         exact .fin () (.of (.cons Y (.cons Y (.cons Y (.cons Y (.cons Y (.cons Y (.cons Y (.cons (svB (show (decide ((n.getD j default) > (n.getD (hiX n o j) default)))=((decide ((o.getD j default) > (o.getD (hiX n o j) default))||((o.getD j default) == (o.getD (hiX n o j) default)&&decide ((n.getD j default) > (n.getD (hiX n o j) default))))) by first | (simp only [g13_9,g13_19,Bool.true_or,Bool.false_or,Bool.true_and,Bool.false_and,Bool.not_true,Bool.not_false]; done) | (simp [g13_9,g13_19]; done) | (exfalso; simp_all; done))) .nil)))))))) (.r Y))
       ·skip
        refine .off Y Y Y Y Y Y Y<|.off Y Y Y Y Y Y Y<|.off Y Y Y Y Y Y Y<|.off Y Y Y Y Y Y Y<|.off Y Y Y Y Y Y Y<|.off Y Y Y Y Y Y Y<|.off Y Y Y Y Y Y Y<|.off Y Y Y Y Y Y Y<|.off Y Y Y Y Y Y Y ?_
        refine .off Y Y Y Y Y Y Y<|.off' rfl Y Y Y Y Y<|.off' rfl Y Y Y Y Y<|.off' rfl Y Y Y Y Y<|.off' rfl Y Y Y Y Y<|.off' rfl Y Y Y Y Y<|.off' rfl Y Y Y Y Y<|.off' rfl Y Y Y Y Y<|.off' rfl Y Y Y Y Y ?_
        refine .off' rfl Y Y Y Y Y<|.off Y Y Y Y Y Y Y<|.pick (.no Y) Y Y Y Y Y ?_
        exact .fin () (.of (.cons Y (.cons Y (.cons Y (.cons Y (.cons Y (.cons Y (.cons Y (.cons (svB (show (true)=((decide ((o.getD j default) > (o.getD (hiX n o j) default))||((o.getD j default) == (o.getD (hiX n o j) default)&&decide ((n.getD j default) > (n.getD (hiX n o j) default))))) by first | (simp only [g13_9,Bool.true_or,Bool.false_or,Bool.true_and,Bool.false_and,Bool.not_true,Bool.not_false]; done) | (simp [g13_9]; done) | (exfalso; simp_all; done))) .nil)))))))) (.r Y))
      intro _
      refine .cond (t:=(decide ((o.getD j default) > (o.getD (hiX n o j) default))||((o.getD j default) == (o.getD (hiX n o j) default)&&decide ((n.getD j default) > (n.getD (hiX n o j) default))))) Y (fun c4=>?_) (fun c4=>?_)
      ·have c4:=(oT dT (aT eT dT)) c4
       refine .rs fun k26=>.mv Y<|.as Y<|.z<|.rs fun k27=>.mv Y<|.bi Y<|.as Y<|.z ?_
       exact .here ((j+1),(k18+1)) (.of (.cons Y (.cons Y (.cons Y (.cons (svI (show ((j:Int))=((loX n o (j+1):Int)) by first | exact lo_1 c3 | exact lo_0 c3 | exact hi_1 c4 | exact hi_0 c4 | rfl | omega | exact wrap_le (by omega) (by omega))) (.cons (svI (show ((j:Int))=((hiX n o (j+1):Int)) by first | exact lo_1 c3 | exact lo_0 c3 | exact hi_1 c4 | exact hi_0 c4 | rfl | omega | exact wrap_le (by omega) (by omega))) (.cons Y (.cons (svI (show (IntKind.wrap .i64 ((j:Int)+1))=(((j+1):Int)) by first | exact lo_1 c3 | exact lo_0 c3 | exact hi_1 c4 | exact hi_0 c4 | rfl | omega | exact wrap_le (by omega) (by omega))) .nil))))))) (.cons Y (.cons (eq1 (fun z1=>some (k13+1,k18+1,O.box [.d (.v (.int .i64 (0))),.d (.v (.int .i64 (0))),.d (.v (.bool (false))),.d (.v (.int .i64 (z1)))])) (show (4)=(alX o (j+1)) by first | exact alX_1 c2 | exact alX_0 c2 | rfl)) .nil))) ⟨(show (j+1)≤n.length by omega),(show n.length - (j+1) < n.length - j by omega)⟩
      ·have c4:=(oF dF (aF eF dF)) c4
       refine .skip<|.rs fun k28=>.mv Y<|.bi Y<|.as Y<|.z ?_
       exact .here ((j+1),(k18+1)) (.of (.cons Y (.cons Y (.cons Y (.cons (svI (show ((j:Int))=((loX n o (j+1):Int)) by first | exact lo_1 c3 | exact lo_0 c3 | exact hi_1 c4 | exact hi_0 c4 | rfl | omega | exact wrap_le (by omega) (by omega))) (.cons (svI (show ((hiX n o j:Int))=((hiX n o (j+1):Int)) by first | exact lo_1 c3 | exact lo_0 c3 | exact hi_1 c4 | exact hi_0 c4 | rfl | omega | exact wrap_le (by omega) (by omega))) (.cons Y (.cons (svI (show (IntKind.wrap .i64 ((j:Int)+1))=(((j+1):Int)) by first | exact lo_1 c3 | exact lo_0 c3 | exact hi_1 c4 | exact hi_0 c4 | rfl | omega | exact wrap_le (by omega) (by omega))) .nil))))))) (.cons Y (.cons (eq1 (fun z1=>some (k13+1,k18+1,O.box [.d (.v (.int .i64 (0))),.d (.v (.int .i64 (0))),.d (.v (.bool (false))),.d (.v (.int .i64 (z1)))])) (show (4)=(alX o (j+1)) by first | exact alX_1 c2 | exact alX_0 c2 | rfl)) .nil))) ⟨(show (j+1)≤n.length by omega),(show n.length - (j+1) < n.length - j by omega)⟩
     ·have c3:=(oF dF (aF eF dF)) c3
      refine .skip<|.seq ?_
      refine .regD (X:=Unit) (by kernel_rfl) (fun ζ=>.of [(0,.one (.d (.sl false 2 1 (List.map i64c (n))))),(1,.one (.d (.sl false 2 1 (List.map i64c (o))))),(4,.one (.ptr [4] (k3) 0)),(5,.one (.d (.v (.int .i64 ((loX n o j:Int)))))),(6,.one (.d (.v (.int .i64 ((hiX n o j:Int)))))),(7,.one (.ptr [7] (k13+1) 0)),(8,.one (.d (.v (.int .i64 ((j:Int)))))),(88,.one (.d (.v (.bool ((decide ((o.getD j default) > (o.getD (hiX n o j) default))||((o.getD j default) == (o.getD (hiX n o j) default)&&decide ((n.getD j default) > (n.getD (hiX n o j) default)))))))))] [([4],(k3,k3,.box [.d (.v (.int .i64 (0))),.d (.v (.int .i64 (0))),.d (.v (.bool (false))),.d (.v (.int .i64 (0)))])),([7],(k13+1,k18+1,.box [.d (.v (.int .i64 (0))),.d (.v (.int .i64 (0))),.d (.v (.bool (false))),.d (.v (.int .i64 (4)))]))]) [⟨[1],some 58,[],[]⟩,⟨[8],some 59,[],[]⟩,⟨[58,59],some 60,[],[]⟩,⟨[60],some 61,[],[]⟩,⟨[1],some 62,[],[]⟩,⟨[6],some 63,[],[]⟩,⟨[62,63],some 64,[],[]⟩,⟨[64],some 65,[],[]⟩,⟨[61,65],some 66,[],[]⟩,⟨[66],some 67,[],[]⟩,⟨[67,1],some 68,[],[]⟩,⟨[67,8],some 69,[],[]⟩,⟨[67,68,69],some 70,[],[]⟩,⟨[67,70],some 71,[],[]⟩,⟨[67,1],some 72,[],[]⟩,⟨[67,6],some 73,[],[]⟩,⟨[67,72,73],some 74,[],[]⟩,⟨[67,74],some 75,[],[]⟩,⟨[67,71,75],some 76,[],[]⟩,⟨[67,76],some 77,[],[]⟩,⟨[77,0],some 78,[],[]⟩,⟨[77,8],some 79,[],[]⟩,⟨[77,78,79],some 80,[],[]⟩,⟨[77,80],some 81,[],[]⟩,⟨[77,0],some 82,[],[]⟩,⟨[77,6],some 83,[],[]⟩,⟨[77,82,83],some 84,[],[]⟩,⟨[77,84],some 85,[],[]⟩,⟨[77,81,85],some 86,[],[]⟩,⟨[67,77,86],some 87,[],[]⟩,⟨[67,87],some 88,[],[]⟩] (by kernel_rfl) (fun k29=>?_) ?_
      ·skip
       refine .move (.no Y) Y Y Y Y<|.move (.no Y) Y Y Y Y<|.indexAddr (.no Y) Y (j) t62 Y t2 Y Y Y (.d _ _) Y Y Y (map_get (by omega)) Y Y<|.load (.no Y) Y t2 Y Y (.d _) Y Y Y Y<|.move (.no Y) Y Y Y Y<|.move (.no Y) Y Y Y Y<|.indexAddr (.no Y) Y (hiX n o j) t62 Y t2 Y Y Y (.d _ _) Y Y Y (map_get (by omega)) Y Y<|.load (.no Y) Y t2 Y Y (.d _) Y Y Y Y<|.bin (.no Y) Y Y Y Y Y Y ?_
       refine .moveB (.no Y) Y Y Y Y fun b30 g13_9=>?_
       cases b30
       ·skip
        refine .move (.on Y Y Y Y Y) Y Y Y Y<|.move (.on Y Y Y Y Y) Y Y Y Y<|.indexAddr (.on Y Y Y Y Y) Y (j) t62 Y t2 Y Y Y (.d _ _) Y Y Y (map_get (by omega)) Y Y<|.load (.on Y Y Y Y Y) Y t2 Y Y (.d _) Y Y Y Y<|.move (.on Y Y Y Y Y) Y Y Y Y<|.move (.on Y Y Y Y Y) Y Y Y Y<|.indexAddr (.on Y Y Y Y Y) Y (hiX n o j) t62 Y t2 Y Y Y (.d _ _) Y Y Y (map_get (by omega)) Y Y<|.load (.on Y Y Y Y Y) Y t2 Y Y (.d _) Y Y Y Y<|.bin (.on Y Y Y Y Y) Y Y Y Y Y Y ?_
        refine .moveB (.on Y Y Y Y Y) Y Y Y Y fun b31 g13_19=>?_
        cases b31
        ·skip
         refine .off Y Y Y Y Y Y Y<|.off Y Y Y Y Y Y Y<|.off Y Y Y Y Y Y Y<|.off Y Y Y Y Y Y Y<|.off Y Y Y Y Y Y Y<|.off Y Y Y Y Y Y Y<|.off Y Y Y Y Y Y Y<|.off Y Y Y Y Y Y Y<|.off Y Y Y Y Y Y Y ?_
         refine .pick (.on Y Y Y Y Y) Y Y Y Y Y<|.pick (.no Y) Y Y Y Y Y ?_
         exact .fin () (.of (.cons Y (.cons Y (.cons Y (.cons Y (.cons Y (.cons Y (.cons Y (.cons (svB (show (false)=((decide ((o.getD j default) > (o.getD (hiX n o j) default))||((o.getD j default) == (o.getD (hiX n o j) default)&&decide ((n.getD j default) > (n.getD (hiX n o j) default))))) by first | (simp only [g13_9,g13_19,Bool.true_or,Bool.false_or,Bool.true_and,Bool.false_and,Bool.not_true,Bool.not_false]; done) | (simp [g13_9,g13_19]; done) | (exfalso; simp_all; done))) .nil)))))))) (.r Y))
        ·skip
         refine .move (.on Y Y Y Y Y) Y Y Y Y<|.move (.on Y Y Y Y Y) Y Y Y Y<|.indexAddr (.on Y Y Y Y Y) Y (j) t62 Y t2 Y Y Y (.d _ _) Y Y Y (map_get (by omega)) Y Y<|.load (.on Y Y Y Y Y) Y t2 Y Y (.d _) Y Y Y Y<|.move (.on Y Y Y Y Y) Y Y Y Y<|.move (.on Y Y Y Y Y) Y Y Y Y<|.indexAddr (.on Y Y Y Y Y) Y (hiX n o j) t62 Y t2 Y Y Y (.d _ _) Y Y Y (map_get (by omega)) Y Y<|.load (.on Y Y Y Y Y) Y t2 Y Y (.d _) Y Y Y Y<|.bin (.on Y Y Y Y Y) Y Y Y Y Y Y ?_
         refine .pick (.on Y Y Y Y Y) Y Y Y Y Y<|.pick (.no Y) Y Y Y Y Y ?_
         exact .fin () (.of (.cons Y (.cons Y (.cons Y (.cons Y (.cons Y (.cons Y (.cons Y (.cons (svB (show (decide ((n.getD j default) > (n.getD (hiX n o j) default)))=((decide ((o.getD j default) > (o.getD (hiX n o j) default))||((o.getD j default) == (o.getD (hiX n o j) default)&&decide ((n.getD j default) > (n.getD (hiX n o j) default))))) by first | (simp only [g13_9,g13_19,Bool.true_or,Bool.false_or,Bool.true_and,Bool.false_and,Bool.not_true,Bool.not_false]; done) | (simp [g13_9,g13_19]; done) | (exfalso; simp_all; done))) .nil)))))))) (.r Y))
       ·skip
        refine .off Y Y Y Y Y Y Y<|.off Y Y Y Y Y Y Y<|.off Y Y Y Y Y Y Y<|.off Y Y Y Y Y Y Y<|.off Y Y Y Y Y Y Y<|.off Y Y Y Y Y Y Y<|.off Y Y Y Y Y Y Y<|.off Y Y Y Y Y Y Y<|.off Y Y Y Y Y Y Y ?_
        refine .off Y Y Y Y Y Y Y<|.off' rfl Y Y Y Y Y<|.off' rfl Y Y Y Y Y<|.off' rfl Y Y Y Y Y<|.off' rfl Y Y Y Y Y<|.off' rfl Y Y Y Y Y<|.off' rfl Y Y Y Y Y<|.off' rfl Y Y Y Y Y<|.off' rfl Y Y Y Y Y ?_
        refine .off' rfl Y Y Y Y Y<|.off Y Y Y Y Y Y Y<|.pick (.no Y) Y Y Y Y Y ?_
        exact .fin () (.of (.cons Y (.cons Y (.cons Y (.cons Y (.cons Y (.cons Y (.cons Y (.cons (svB (show (true)=((decide ((o.getD j default) > (o.getD (hiX n o j) default))||((o.getD j default) == (o.getD (hiX n o j) default)&&decide ((n.getD j default) > (n.getD (hiX n o j) default))))) by first | (simp only [g13_9,Bool.true_or,Bool.false_or,Bool.true_and,Bool.false_and,Bool.not_true,Bool.not_false]; done) | (simp [g13_9]; done) | (exfalso; simp_all; done))) .nil)))))))) (.r Y))
      intro _
      refine .cond (t:=(decide ((o.getD j default) > (o.getD (hiX n o j) default))||((o.getD j default) == (o.getD (hiX n o j) default)&&decide ((n.getD j default) > (n.getD (hiX n o j) default))))) Y (fun c4=>?_) (fun c4=>?_)
      ·have c4:=(oT dT (aT eT dT)) c4
       refine .rs fun k32=>.mv Y<|.as Y<|.z<|.rs fun k33=>.mv Y<|.bi Y<|.as Y<|.z ?_
       exact .here ((j+1),(k18+1)) (.of (.cons Y (.cons Y (.cons Y (.cons (svI (show ((loX n o j:Int))=((loX n o (j+1):Int)) by first | exact lo_1 c3 | exact lo_0 c3 | exact hi_1 c4 | exact hi_0 c4 | rfl | omega | exact wrap_le (by omega) (by omega))) (.cons (svI (show ((j:Int))=((hiX n o (j+1):Int)) by first | exact lo_1 c3 | exact lo_0 c3 | exact hi_1 c4 | exact hi_0 c4 | rfl | omega | exact wrap_le (by omega) (by omega))) (.cons Y (.cons (svI (show (IntKind.wrap .i64 ((j:Int)+1))=(((j+1):Int)) by first | exact lo_1 c3 | exact lo_0 c3 | exact hi_1 c4 | exact hi_0 c4 | rfl | omega | exact wrap_le (by omega) (by omega))) .nil))))))) (.cons Y (.cons (eq1 (fun z1=>some (k13+1,k18+1,O.box [.d (.v (.int .i64 (0))),.d (.v (.int .i64 (0))),.d (.v (.bool (false))),.d (.v (.int .i64 (z1)))])) (show (4)=(alX o (j+1)) by first | exact alX_1 c2 | exact alX_0 c2 | rfl)) .nil))) ⟨(show (j+1)≤n.length by omega),(show n.length - (j+1) < n.length - j by omega)⟩
      ·have c4:=(oF dF (aF eF dF)) c4
       refine .skip<|.rs fun k34=>.mv Y<|.bi Y<|.as Y<|.z ?_
       exact .here ((j+1),(k18+1)) (.of (.cons Y (.cons Y (.cons Y (.cons (svI (show ((loX n o j:Int))=((loX n o (j+1):Int)) by first | exact lo_1 c3 | exact lo_0 c3 | exact hi_1 c4 | exact hi_0 c4 | rfl | omega | exact wrap_le (by omega) (by omega))) (.cons (svI (show ((hiX n o j:Int))=((hiX n o (j+1):Int)) by first | exact lo_1 c3 | exact lo_0 c3 | exact hi_1 c4 | exact hi_0 c4 | rfl | omega | exact wrap_le (by omega) (by omega))) (.cons Y (.cons (svI (show (IntKind.wrap .i64 ((j:Int)+1))=(((j+1):Int)) by first | exact lo_1 c3 | exact lo_0 c3 | exact hi_1 c4 | exact hi_0 c4 | rfl | omega | exact wrap_le (by omega) (by omega))) .nil))))))) (.cons Y (.cons (eq1 (fun z1=>some (k13+1,k18+1,O.box [.d (.v (.int .i64 (0))),.d (.v (.int .i64 (0))),.d (.v (.bool (false))),.d (.v (.int .i64 (z1)))])) (show (4)=(alX o (j+1)) by first | exact alX_1 c2 | exact alX_0 c2 | rfl)) .nil))) ⟨(show (j+1)≤n.length by omega),(show n.length - (j+1) < n.length - j by omega)⟩
    ·have c2:=(by simpa using c2:(o.getD j default)=0)
     refine .skip<|.seq<|.seq ?_
     refine .regD (X:=Unit) (by kernel_rfl) (fun ζ=>.of [(0,.one (.d (.sl false 2 1 (List.map i64c (n))))),(1,.one (.d (.sl false 2 1 (List.map i64c (o))))),(4,.one (.ptr [4] (k3) 0)),(5,.one (.d (.v (.int .i64 ((loX n o j:Int)))))),(6,.one (.d (.v (.int .i64 ((hiX n o j:Int)))))),(7,.one (.ptr [7] (k13+1) 0)),(8,.one (.d (.v (.int .i64 ((j:Int)))))),(56,.one (.d (.v (.bool ((decide ((o.getD j default) < (o.getD (loX n o j) default))||((o.getD j default) == (o.getD (loX n o j) default)&&decide ((n.getD j default) < (n.getD (loX n o j) default)))))))))] [([4],(k3,k3,.box [.d (.v (.int .i64 (0))),.d (.v (.int .i64 (0))),.d (.v (.bool (false))),.d (.v (.int .i64 (0)))])),([7],(k13+1,q15,.box [.d (.v (.int .i64 (0))),.d (.v (.int .i64 (0))),.d (.v (.bool (false))),.d (.v (.int .i64 (alX o j)))]))]) [⟨[1],some 26,[],[]⟩,⟨[8],some 27,[],[]⟩,⟨[26,27],some 28,[],[]⟩,⟨[28],some 29,[],[]⟩,⟨[1],some 30,[],[]⟩,⟨[5],some 31,[],[]⟩,⟨[30,31],some 32,[],[]⟩,⟨[32],some 33,[],[]⟩,⟨[29,33],some 34,[],[]⟩,⟨[34],some 35,[],[]⟩,⟨[35,1],some 36,[],[]⟩,⟨[35,8],some 37,[],[]⟩,⟨[35,36,37],some 38,[],[]⟩,⟨[35,38],some 39,[],[]⟩,⟨[35,1],some 40,[],[]⟩,⟨[35,5],some 41,[],[]⟩,⟨[35,40,41],some 42,[],[]⟩,⟨[35,42],some 43,[],[]⟩,⟨[35,39,43],some 44,[],[]⟩,⟨[35,44],some 45,[],[]⟩,⟨[45,0],some 46,[],[]⟩,⟨[45,8],some 47,[],[]⟩,⟨[45,46,47],some 48,[],[]⟩,⟨[45,48],some 49,[],[]⟩,⟨[45,0],some 50,[],[]⟩,⟨[45,5],some 51,[],[]⟩,⟨[45,50,51],some 52,[],[]⟩,⟨[45,52],some 53,[],[]⟩,⟨[45,49,53],some 54,[],[]⟩,⟨[35,45,54],some 55,[],[]⟩,⟨[35,55],some 56,[],[]⟩] (by kernel_rfl) (fun k35=>?_) ?_
     ·skip
      refine .move (.no Y) Y Y Y Y<|.move (.no Y) Y Y Y Y<|.indexAddr (.no Y) Y (j) t62 Y t2 Y Y Y (.d _ _) Y Y Y (map_get (by omega)) Y Y<|.load (.no Y) Y t2 Y Y (.d _) Y Y Y Y<|.move (.no Y) Y Y Y Y<|.move (.no Y) Y Y Y Y<|.indexAddr (.no Y) Y (loX n o j) t62 Y t2 Y Y Y (.d _ _) Y Y Y (map_get (by omega)) Y Y<|.load (.no Y) Y t2 Y Y (.d _) Y Y Y Y<|.bin (.no Y) Y Y Y Y Y Y ?_
      refine .moveB (.no Y) Y Y Y Y fun b36 g11_9=>?_
      cases b36
      ·skip
       refine .move (.on Y Y Y Y Y) Y Y Y Y<|.move (.on Y Y Y Y Y) Y Y Y Y<|.indexAddr (.on Y Y Y Y Y) Y (j) t62 Y t2 Y Y Y (.d _ _) Y Y Y (map_get (by omega)) Y Y<|.load (.on Y Y Y Y Y) Y t2 Y Y (.d _) Y Y Y Y<|.move (.on Y Y Y Y Y) Y Y Y Y<|.move (.on Y Y Y Y Y) Y Y Y Y<|.indexAddr (.on Y Y Y Y Y) Y (loX n o j) t62 Y t2 Y Y Y (.d _ _) Y Y Y (map_get (by omega)) Y Y<|.load (.on Y Y Y Y Y) Y t2 Y Y (.d _) Y Y Y Y<|.bin (.on Y Y Y Y Y) Y Y Y Y Y Y ?_
       refine .moveB (.on Y Y Y Y Y) Y Y Y Y fun b37 g11_19=>?_
       cases b37
       ·skip
        refine .off Y Y Y Y Y Y Y<|.off Y Y Y Y Y Y Y<|.off Y Y Y Y Y Y Y<|.off Y Y Y Y Y Y Y<|.off Y Y Y Y Y Y Y<|.off Y Y Y Y Y Y Y<|.off Y Y Y Y Y Y Y<|.off Y Y Y Y Y Y Y<|.off Y Y Y Y Y Y Y ?_
        refine .pick (.on Y Y Y Y Y) Y Y Y Y Y<|.pick (.no Y) Y Y Y Y Y ?_
        exact .fin () (.of (.cons Y (.cons Y (.cons Y (.cons Y (.cons Y (.cons Y (.cons Y (.cons (svB (show (false)=((decide ((o.getD j default) < (o.getD (loX n o j) default))||((o.getD j default) == (o.getD (loX n o j) default)&&decide ((n.getD j default) < (n.getD (loX n o j) default))))) by first | (simp only [g11_9,g11_19,Bool.true_or,Bool.false_or,Bool.true_and,Bool.false_and,Bool.not_true,Bool.not_false]; done) | (simp [g11_9,g11_19]; done) | (exfalso; simp_all; done))) .nil)))))))) (.r Y))
       ·skip
        refine .move (.on Y Y Y Y Y) Y Y Y Y<|.move (.on Y Y Y Y Y) Y Y Y Y<|.indexAddr (.on Y Y Y Y Y) Y (j) t62 Y t2 Y Y Y (.d _ _) Y Y Y (map_get (by omega)) Y Y<|.load (.on Y Y Y Y Y) Y t2 Y Y (.d _) Y Y Y Y<|.move (.on Y Y Y Y Y) Y Y Y Y<|.move (.on Y Y Y Y Y) Y Y Y Y<|.indexAddr (.on Y Y Y Y Y) Y (loX n o j) t62 Y t2 Y Y Y (.d _ _) Y Y Y (map_get (by omega)) Y Y<|.load (.on Y Y Y Y Y) Y t2 Y Y (.d _) Y Y Y Y<|.bin (.on Y Y Y Y Y) Y Y Y Y Y Y ?_
        refine .pick (.on Y Y Y Y Y) Y Y Y Y Y<|.pick (.no Y) Y Y Y Y Y ?_
        exact .fin () (.of (.cons Y (.cons Y (.cons Y (.cons Y (.cons Y (.cons Y (.cons Y (.cons (svB (show (decide ((n.getD j default) < (n.getD (loX n o j) default)))=((decide ((o.getD j default) < (o.getD (loX n o j) default))||((o.getD j default) == (o.getD (loX n o j) default)&&decide ((n.getD j default) < (n.getD (loX n o j) default))))) by first | (simp only [g11_9,g11_19,Bool.true_or,Bool.false_or,Bool.true_and,Bool.false_and,Bool.not_true,Bool.not_false]; done) | (simp [g11_9,g11_19]; done) | (exfalso; simp_all; done))) .nil)))))))) (.r Y))
      ·skip
       refine .off Y Y Y Y Y Y Y<|.off Y Y Y Y Y Y Y<|.off Y Y Y Y Y Y Y<|.off Y Y Y Y Y Y Y<|.off Y Y Y Y Y Y Y<|.off Y Y Y Y Y Y Y<|.off Y Y Y Y Y Y Y<|.off Y Y Y Y Y Y Y<|.off Y Y Y Y Y Y Y ?_
       refine .off Y Y Y Y Y Y Y<|.off' rfl Y Y Y Y Y<|.off' rfl Y Y Y Y Y<|.off' rfl Y Y Y Y Y<|.off' rfl Y Y Y Y Y<|.off' rfl Y Y Y Y Y<|.off' rfl Y Y Y Y Y<|.off' rfl Y Y Y Y Y<|.off' rfl Y Y Y Y Y ?_
       refine .off' rfl Y Y Y Y Y<|.off Y Y Y Y Y Y Y<|.pick (.no Y) Y Y Y Y Y ?_
       exact .fin () (.of (.cons Y (.cons Y (.cons Y (.cons Y (.cons Y (.cons Y (.cons Y (.cons (svB (show (true)=((decide ((o.getD j default) < (o.getD (loX n o j) default))||((o.getD j default) == (o.getD (loX n o j) default)&&decide ((n.getD j default) < (n.getD (loX n o j) default))))) by first | (simp only [g11_9,Bool.true_or,Bool.false_or,Bool.true_and,Bool.false_and,Bool.not_true,Bool.not_false]; done) | (simp [g11_9]; done) | (exfalso; simp_all; done))) .nil)))))))) (.r Y))
     intro _
     refine .cond (t:=(decide ((o.getD j default) < (o.getD (loX n o j) default))||((o.getD j default) == (o.getD (loX n o j) default)&&decide ((n.getD j default) < (n.getD (loX n o j) default))))) Y (fun c3=>?_) (fun c3=>?_)
     ·have c3:=(oT dT (aT eT dT)) c3
      refine .rs fun k38=>.mv Y<|.as Y<|.z<|.seq ?_
      refine .regD (X:=Unit) (by kernel_rfl) (fun ζ=>.of [(0,.one (.d (.sl false 2 1 (List.map i64c (n))))),(1,.one (.d (.sl false 2 1 (List.map i64c (o))))),(4,.one (.ptr [4] (k3) 0)),(5,.one (.d (.v (.int .i64 ((j:Int)))))),(6,.one (.d (.v (.int .i64 ((hiX n o j:Int)))))),(7,.one (.ptr [7] (k13+1) 0)),(8,.one (.d (.v (.int .i64 ((j:Int)))))),(88,.one (.d (.v (.bool ((decide ((o.getD j default) > (o.getD (hiX n o j) default))||((o.getD j default) == (o.getD (hiX n o j) default)&&decide ((n.getD j default) > (n.getD (hiX n o j) default)))))))))] [([4],(k3,k3,.box [.d (.v (.int .i64 (0))),.d (.v (.int .i64 (0))),.d (.v (.bool (false))),.d (.v (.int .i64 (0)))])),([7],(k13+1,q15,.box [.d (.v (.int .i64 (0))),.d (.v (.int .i64 (0))),.d (.v (.bool (false))),.d (.v (.int .i64 (alX o j)))]))]) [⟨[1],some 58,[],[]⟩,⟨[8],some 59,[],[]⟩,⟨[58,59],some 60,[],[]⟩,⟨[60],some 61,[],[]⟩,⟨[1],some 62,[],[]⟩,⟨[6],some 63,[],[]⟩,⟨[62,63],some 64,[],[]⟩,⟨[64],some 65,[],[]⟩,⟨[61,65],some 66,[],[]⟩,⟨[66],some 67,[],[]⟩,⟨[67,1],some 68,[],[]⟩,⟨[67,8],some 69,[],[]⟩,⟨[67,68,69],some 70,[],[]⟩,⟨[67,70],some 71,[],[]⟩,⟨[67,1],some 72,[],[]⟩,⟨[67,6],some 73,[],[]⟩,⟨[67,72,73],some 74,[],[]⟩,⟨[67,74],some 75,[],[]⟩,⟨[67,71,75],some 76,[],[]⟩,⟨[67,76],some 77,[],[]⟩,⟨[77,0],some 78,[],[]⟩,⟨[77,8],some 79,[],[]⟩,⟨[77,78,79],some 80,[],[]⟩,⟨[77,80],some 81,[],[]⟩,⟨[77,0],some 82,[],[]⟩,⟨[77,6],some 83,[],[]⟩,⟨[77,82,83],some 84,[],[]⟩,⟨[77,84],some 85,[],[]⟩,⟨[77,81,85],some 86,[],[]⟩,⟨[67,77,86],some 87,[],[]⟩,⟨[67,87],some 88,[],[]⟩] (by kernel_rfl) (fun k39=>?_) ?_
      ·skip
       refine .move (.no Y) Y Y Y Y<|.move (.no Y) Y Y Y Y<|.indexAddr (.no Y) Y (j) t62 Y t2 Y Y Y (.d _ _) Y Y Y (map_get (by omega)) Y Y<|.load (.no Y) Y t2 Y Y (.d _) Y Y Y Y<|.move (.no Y) Y Y Y Y<|.move (.no Y) Y Y Y Y<|.indexAddr (.no Y) Y (hiX n o j) t62 Y t2 Y Y Y (.d _ _) Y Y Y (map_get (by omega)) Y Y<|.load (.no Y) Y t2 Y Y (.d _) Y Y Y Y<|.bin (.no Y) Y Y Y Y Y Y ?_
       refine .moveB (.no Y) Y Y Y Y fun b40 g13_9=>?_
       cases b40
       ·skip
        refine .move (.on Y Y Y Y Y) Y Y Y Y<|.move (.on Y Y Y Y Y) Y Y Y Y<|.indexAddr (.on Y Y Y Y Y) Y (j) t62 Y t2 Y Y Y (.d _ _) Y Y Y (map_get (by omega)) Y Y<|.load (.on Y Y Y Y Y) Y t2 Y Y (.d _) Y Y Y Y<|.move (.on Y Y Y Y Y) Y Y Y Y<|.move (.on Y Y Y Y Y) Y Y Y Y<|.indexAddr (.on Y Y Y Y Y) Y (hiX n o j) t62 Y t2 Y Y Y (.d _ _) Y Y Y (map_get (by omega)) Y Y<|.load (.on Y Y Y Y Y) Y t2 Y Y (.d _) Y Y Y Y<|.bin (.on Y Y Y Y Y) Y Y Y Y Y Y ?_
        refine .moveB (.on Y Y Y Y Y) Y Y Y Y fun b41 g13_19=>?_
        cases b41
        ·skip
         refine .off Y Y Y Y Y Y Y<|.off Y Y Y Y Y Y Y<|.off Y Y Y Y Y Y Y<|.off Y Y Y Y Y Y Y<|.off Y Y Y Y Y Y Y<|.off Y Y Y Y Y Y Y<|.off Y Y Y Y Y Y Y<|.off Y Y Y Y Y Y Y<|.off Y Y Y Y Y Y Y ?_
         refine .pick (.on Y Y Y Y Y) Y Y Y Y Y<|.pick (.no Y) Y Y Y Y Y ?_
         exact .fin () (.of (.cons Y (.cons Y (.cons Y (.cons Y (.cons Y (.cons Y (.cons Y (.cons (svB (show (false)=((decide ((o.getD j default) > (o.getD (hiX n o j) default))||((o.getD j default) == (o.getD (hiX n o j) default)&&decide ((n.getD j default) > (n.getD (hiX n o j) default))))) by first | (simp only [g13_9,g13_19,Bool.true_or,Bool.false_or,Bool.true_and,Bool.false_and,Bool.not_true,Bool.not_false]; done) | (simp [g13_9,g13_19]; done) | (exfalso; simp_all; done))) .nil)))))))) (.r Y))
        ·skip
         refine .move (.on Y Y Y Y Y) Y Y Y Y<|.move (.on Y Y Y Y Y) Y Y Y Y<|.indexAddr (.on Y Y Y Y Y) Y (j) t62 Y t2 Y Y Y (.d _ _) Y Y Y (map_get (by omega)) Y Y<|.load (.on Y Y Y Y Y) Y t2 Y Y (.d _) Y Y Y Y<|.move (.on Y Y Y Y Y) Y Y Y Y<|.move (.on Y Y Y Y Y) Y Y Y Y<|.indexAddr (.on Y Y Y Y Y) Y (hiX n o j) t62 Y t2 Y Y Y (.d _ _) Y Y Y (map_get (by omega)) Y Y<|.load (.on Y Y Y Y Y) Y t2 Y Y (.d _) Y Y Y Y<|.bin (.on Y Y Y Y Y) Y Y Y Y Y Y ?_
         refine .pick (.on Y Y Y Y Y) Y Y Y Y Y<|.pick (.no Y) Y Y Y Y Y ?_
         exact .fin () (.of (.cons Y (.cons Y (.cons Y (.cons Y (.cons Y (.cons Y (.cons Y (.cons (svB (show (decide ((n.getD j default) > (n.getD (hiX n o j) default)))=((decide ((o.getD j default) > (o.getD (hiX n o j) default))||((o.getD j default) == (o.getD (hiX n o j) default)&&decide ((n.getD j default) > (n.getD (hiX n o j) default))))) by first | (simp only [g13_9,g13_19,Bool.true_or,Bool.false_or,Bool.true_and,Bool.false_and,Bool.not_true,Bool.not_false]; done) | (simp [g13_9,g13_19]; done) | (exfalso; simp_all; done))) .nil)))))))) (.r Y))
       ·skip
        refine .off Y Y Y Y Y Y Y<|.off Y Y Y Y Y Y Y<|.off Y Y Y Y Y Y Y<|.off Y Y Y Y Y Y Y<|.off Y Y Y Y Y Y Y<|.off Y Y Y Y Y Y Y<|.off Y Y Y Y Y Y Y<|.off Y Y Y Y Y Y Y<|.off Y Y Y Y Y Y Y ?_
        refine .off Y Y Y Y Y Y Y<|.off' rfl Y Y Y Y Y<|.off' rfl Y Y Y Y Y<|.off' rfl Y Y Y Y Y<|.off' rfl Y Y Y Y Y<|.off' rfl Y Y Y Y Y<|.off' rfl Y Y Y Y Y<|.off' rfl Y Y Y Y Y<|.off' rfl Y Y Y Y Y ?_
        refine .off' rfl Y Y Y Y Y<|.off Y Y Y Y Y Y Y<|.pick (.no Y) Y Y Y Y Y ?_
        exact .fin () (.of (.cons Y (.cons Y (.cons Y (.cons Y (.cons Y (.cons Y (.cons Y (.cons (svB (show (true)=((decide ((o.getD j default) > (o.getD (hiX n o j) default))||((o.getD j default) == (o.getD (hiX n o j) default)&&decide ((n.getD j default) > (n.getD (hiX n o j) default))))) by first | (simp only [g13_9,Bool.true_or,Bool.false_or,Bool.true_and,Bool.false_and,Bool.not_true,Bool.not_false]; done) | (simp [g13_9]; done) | (exfalso; simp_all; done))) .nil)))))))) (.r Y))
      intro _
      refine .cond (t:=(decide ((o.getD j default) > (o.getD (hiX n o j) default))||((o.getD j default) == (o.getD (hiX n o j) default)&&decide ((n.getD j default) > (n.getD (hiX n o j) default))))) Y (fun c4=>?_) (fun c4=>?_)
      ·have c4:=(oT dT (aT eT dT)) c4
       refine .rs fun k42=>.mv Y<|.as Y<|.z<|.rs fun k43=>.mv Y<|.bi Y<|.as Y<|.z ?_
       exact .here ((j+1),q15) (.of (.cons Y (.cons Y (.cons Y (.cons (svI (show ((j:Int))=((loX n o (j+1):Int)) by first | exact lo_1 c3 | exact lo_0 c3 | exact hi_1 c4 | exact hi_0 c4 | rfl | omega | exact wrap_le (by omega) (by omega))) (.cons (svI (show ((j:Int))=((hiX n o (j+1):Int)) by first | exact lo_1 c3 | exact lo_0 c3 | exact hi_1 c4 | exact hi_0 c4 | rfl | omega | exact wrap_le (by omega) (by omega))) (.cons Y (.cons (svI (show (IntKind.wrap .i64 ((j:Int)+1))=(((j+1):Int)) by first | exact lo_1 c3 | exact lo_0 c3 | exact hi_1 c4 | exact hi_0 c4 | rfl | omega | exact wrap_le (by omega) (by omega))) .nil))))))) (.cons Y (.cons (eq1 (fun z1=>some (k13+1,q15,O.box [.d (.v (.int .i64 (0))),.d (.v (.int .i64 (0))),.d (.v (.bool (false))),.d (.v (.int .i64 (z1)))])) (show (alX o j)=(alX o (j+1)) by first | exact alX_1 c2 | exact alX_0 c2 | rfl)) .nil))) ⟨(show (j+1)≤n.length by omega),(show n.length - (j+1) < n.length - j by omega)⟩
      ·have c4:=(oF dF (aF eF dF)) c4
       refine .skip<|.rs fun k44=>.mv Y<|.bi Y<|.as Y<|.z ?_
       exact .here ((j+1),q15) (.of (.cons Y (.cons Y (.cons Y (.cons (svI (show ((j:Int))=((loX n o (j+1):Int)) by first | exact lo_1 c3 | exact lo_0 c3 | exact hi_1 c4 | exact hi_0 c4 | rfl | omega | exact wrap_le (by omega) (by omega))) (.cons (svI (show ((hiX n o j:Int))=((hiX n o (j+1):Int)) by first | exact lo_1 c3 | exact lo_0 c3 | exact hi_1 c4 | exact hi_0 c4 | rfl | omega | exact wrap_le (by omega) (by omega))) (.cons Y (.cons (svI (show (IntKind.wrap .i64 ((j:Int)+1))=(((j+1):Int)) by first | exact lo_1 c3 | exact lo_0 c3 | exact hi_1 c4 | exact hi_0 c4 | rfl | omega | exact wrap_le (by omega) (by omega))) .nil))))))) (.cons Y (.cons (eq1 (fun z1=>some (k13+1,q15,O.box [.d (.v (.int .i64 (0))),.d (.v (.int .i64 (0))),.d (.v (.bool (false))),.d (.v (.int .i64 (z1)))])) (show (alX o j)=(alX o (j+1)) by first | exact alX_1 c2 | exact alX_0 c2 | rfl)) .nil))) ⟨(show (j+1)≤n.length by omega),(show n.length - (j+1) < n.length - j by omega)⟩
     ·have c3:=(oF dF (aF eF dF)) c3
      refine .skip<|.seq ?_
      refine .regD (X:=Unit) (by kernel_rfl) (fun ζ=>.of [(0,.one (.d (.sl false 2 1 (List.map i64c (n))))),(1,.one (.d (.sl false 2 1 (List.map i64c (o))))),(4,.one (.ptr [4] (k3) 0)),(5,.one (.d (.v (.int .i64 ((loX n o j:Int)))))),(6,.one (.d (.v (.int .i64 ((hiX n o j:Int)))))),(7,.one (.ptr [7] (k13+1) 0)),(8,.one (.d (.v (.int .i64 ((j:Int)))))),(88,.one (.d (.v (.bool ((decide ((o.getD j default) > (o.getD (hiX n o j) default))||((o.getD j default) == (o.getD (hiX n o j) default)&&decide ((n.getD j default) > (n.getD (hiX n o j) default)))))))))] [([4],(k3,k3,.box [.d (.v (.int .i64 (0))),.d (.v (.int .i64 (0))),.d (.v (.bool (false))),.d (.v (.int .i64 (0)))])),([7],(k13+1,q15,.box [.d (.v (.int .i64 (0))),.d (.v (.int .i64 (0))),.d (.v (.bool (false))),.d (.v (.int .i64 (alX o j)))]))]) [⟨[1],some 58,[],[]⟩,⟨[8],some 59,[],[]⟩,⟨[58,59],some 60,[],[]⟩,⟨[60],some 61,[],[]⟩,⟨[1],some 62,[],[]⟩,⟨[6],some 63,[],[]⟩,⟨[62,63],some 64,[],[]⟩,⟨[64],some 65,[],[]⟩,⟨[61,65],some 66,[],[]⟩,⟨[66],some 67,[],[]⟩,⟨[67,1],some 68,[],[]⟩,⟨[67,8],some 69,[],[]⟩,⟨[67,68,69],some 70,[],[]⟩,⟨[67,70],some 71,[],[]⟩,⟨[67,1],some 72,[],[]⟩,⟨[67,6],some 73,[],[]⟩,⟨[67,72,73],some 74,[],[]⟩,⟨[67,74],some 75,[],[]⟩,⟨[67,71,75],some 76,[],[]⟩,⟨[67,76],some 77,[],[]⟩,⟨[77,0],some 78,[],[]⟩,⟨[77,8],some 79,[],[]⟩,⟨[77,78,79],some 80,[],[]⟩,⟨[77,80],some 81,[],[]⟩,⟨[77,0],some 82,[],[]⟩,⟨[77,6],some 83,[],[]⟩,⟨[77,82,83],some 84,[],[]⟩,⟨[77,84],some 85,[],[]⟩,⟨[77,81,85],some 86,[],[]⟩,⟨[67,77,86],some 87,[],[]⟩,⟨[67,87],some 88,[],[]⟩] (by kernel_rfl) (fun k45=>?_) ?_
      ·skip
       refine .move (.no Y) Y Y Y Y<|.move (.no Y) Y Y Y Y<|.indexAddr (.no Y) Y (j) t62 Y t2 Y Y Y (.d _ _) Y Y Y (map_get (by omega)) Y Y<|.load (.no Y) Y t2 Y Y (.d _) Y Y Y Y<|.move (.no Y) Y Y Y Y<|.move (.no Y) Y Y Y Y<|.indexAddr (.no Y) Y (hiX n o j) t62 Y t2 Y Y Y (.d _ _) Y Y Y (map_get (by omega)) Y Y<|.load (.no Y) Y t2 Y Y (.d _) Y Y Y Y<|.bin (.no Y) Y Y Y Y Y Y ?_
       refine .moveB (.no Y) Y Y Y Y fun b46 g13_9=>?_
       cases b46
       ·skip
        refine .move (.on Y Y Y Y Y) Y Y Y Y<|.move (.on Y Y Y Y Y) Y Y Y Y<|.indexAddr (.on Y Y Y Y Y) Y (j) t62 Y t2 Y Y Y (.d _ _) Y Y Y (map_get (by omega)) Y Y<|.load (.on Y Y Y Y Y) Y t2 Y Y (.d _) Y Y Y Y<|.move (.on Y Y Y Y Y) Y Y Y Y<|.move (.on Y Y Y Y Y) Y Y Y Y<|.indexAddr (.on Y Y Y Y Y) Y (hiX n o j) t62 Y t2 Y Y Y (.d _ _) Y Y Y (map_get (by omega)) Y Y<|.load (.on Y Y Y Y Y) Y t2 Y Y (.d _) Y Y Y Y<|.bin (.on Y Y Y Y Y) Y Y Y Y Y Y ?_
        refine .moveB (.on Y Y Y Y Y) Y Y Y Y fun b47 g13_19=>?_
        cases b47
        ·skip
         refine .off Y Y Y Y Y Y Y<|.off Y Y Y Y Y Y Y<|.off Y Y Y Y Y Y Y<|.off Y Y Y Y Y Y Y<|.off Y Y Y Y Y Y Y<|.off Y Y Y Y Y Y Y<|.off Y Y Y Y Y Y Y<|.off Y Y Y Y Y Y Y<|.off Y Y Y Y Y Y Y ?_
         refine .pick (.on Y Y Y Y Y) Y Y Y Y Y<|.pick (.no Y) Y Y Y Y Y ?_
         exact .fin () (.of (.cons Y (.cons Y (.cons Y (.cons Y (.cons Y (.cons Y (.cons Y (.cons (svB (show (false)=((decide ((o.getD j default) > (o.getD (hiX n o j) default))||((o.getD j default) == (o.getD (hiX n o j) default)&&decide ((n.getD j default) > (n.getD (hiX n o j) default))))) by first | (simp only [g13_9,g13_19,Bool.true_or,Bool.false_or,Bool.true_and,Bool.false_and,Bool.not_true,Bool.not_false]; done) | (simp [g13_9,g13_19]; done) | (exfalso; simp_all; done))) .nil)))))))) (.r Y))
        ·skip
         refine .move (.on Y Y Y Y Y) Y Y Y Y<|.move (.on Y Y Y Y Y) Y Y Y Y<|.indexAddr (.on Y Y Y Y Y) Y (j) t62 Y t2 Y Y Y (.d _ _) Y Y Y (map_get (by omega)) Y Y<|.load (.on Y Y Y Y Y) Y t2 Y Y (.d _) Y Y Y Y<|.move (.on Y Y Y Y Y) Y Y Y Y<|.move (.on Y Y Y Y Y) Y Y Y Y<|.indexAddr (.on Y Y Y Y Y) Y (hiX n o j) t62 Y t2 Y Y Y (.d _ _) Y Y Y (map_get (by omega)) Y Y<|.load (.on Y Y Y Y Y) Y t2 Y Y (.d _) Y Y Y Y<|.bin (.on Y Y Y Y Y) Y Y Y Y Y Y ?_
         refine .pick (.on Y Y Y Y Y) Y Y Y Y Y<|.pick (.no Y) Y Y Y Y Y ?_
         exact .fin () (.of (.cons Y (.cons Y (.cons Y (.cons Y (.cons Y (.cons Y (.cons Y (.cons (svB (show (decide ((n.getD j default) > (n.getD (hiX n o j) default)))=((decide ((o.getD j default) > (o.getD (hiX n o j) default))||((o.getD j default) == (o.getD (hiX n o j) default)&&decide ((n.getD j default) > (n.getD (hiX n o j) default))))) by first | (simp only [g13_9,g13_19,Bool.true_or,Bool.false_or,Bool.true_and,Bool.false_and,Bool.not_true,Bool.not_false]; done) | (simp [g13_9,g13_19]; done) | (exfalso; simp_all; done))) .nil)))))))) (.r Y))
       ·skip
        refine .off Y Y Y Y Y Y Y<|.off Y Y Y Y Y Y Y<|.off Y Y Y Y Y Y Y<|.off Y Y Y Y Y Y Y<|.off Y Y Y Y Y Y Y<|.off Y Y Y Y Y Y Y<|.off Y Y Y Y Y Y Y<|.off Y Y Y Y Y Y Y<|.off Y Y Y Y Y Y Y ?_
        refine .off Y Y Y Y Y Y Y<|.off' rfl Y Y Y Y Y<|.off' rfl Y Y Y Y Y<|.off' rfl Y Y Y Y Y<|.off' rfl Y Y Y Y Y<|.off' rfl Y Y Y Y Y<|.off' rfl Y Y Y Y Y<|.off' rfl Y Y Y Y Y<|.off' rfl Y Y Y Y Y ?_
        refine .off' rfl Y Y Y Y Y<|.off Y Y Y Y Y Y Y<|.pick (.no Y) Y Y Y Y Y ?_
        exact .fin () (.of (.cons Y (.cons Y (.cons Y (.cons Y (.cons Y (.cons Y (.cons Y (.cons (svB (show (true)=((decide ((o.getD j default) > (o.getD (hiX n o j) default))||((o.getD j default) == (o.getD (hiX n o j) default)&&decide ((n.getD j default) > (n.getD (hiX n o j) default))))) by first | (simp only [g13_9,Bool.true_or,Bool.false_or,Bool.true_and,Bool.false_and,Bool.not_true,Bool.not_false]; done) | (simp [g13_9]; done) | (exfalso; simp_all; done))) .nil)))))))) (.r Y))
      intro _
      refine .cond (t:=(decide ((o.getD j default) > (o.getD (hiX n o j) default))||((o.getD j default) == (o.getD (hiX n o j) default)&&decide ((n.getD j default) > (n.getD (hiX n o j) default))))) Y (fun c4=>?_) (fun c4=>?_)
      ·have c4:=(oT dT (aT eT dT)) c4
       refine .rs fun k48=>.mv Y<|.as Y<|.z<|.rs fun k49=>.mv Y<|.bi Y<|.as Y<|.z ?_
       exact .here ((j+1),q15) (.of (.cons Y (.cons Y (.cons Y (.cons (svI (show ((loX n o j:Int))=((loX n o (j+1):Int)) by first | exact lo_1 c3 | exact lo_0 c3 | exact hi_1 c4 | exact hi_0 c4 | rfl | omega | exact wrap_le (by omega) (by omega))) (.cons (svI (show ((j:Int))=((hiX n o (j+1):Int)) by first | exact lo_1 c3 | exact lo_0 c3 | exact hi_1 c4 | exact hi_0 c4 | rfl | omega | exact wrap_le (by omega) (by omega))) (.cons Y (.cons (svI (show (IntKind.wrap .i64 ((j:Int)+1))=(((j+1):Int)) by first | exact lo_1 c3 | exact lo_0 c3 | exact hi_1 c4 | exact hi_0 c4 | rfl | omega | exact wrap_le (by omega) (by omega))) .nil))))))) (.cons Y (.cons (eq1 (fun z1=>some (k13+1,q15,O.box [.d (.v (.int .i64 (0))),.d (.v (.int .i64 (0))),.d (.v (.bool (false))),.d (.v (.int .i64 (z1)))])) (show (alX o j)=(alX o (j+1)) by first | exact alX_1 c2 | exact alX_0 c2 | rfl)) .nil))) ⟨(show (j+1)≤n.length by omega),(show n.length - (j+1) < n.length - j by omega)⟩
      ·have c4:=(oF dF (aF eF dF)) c4
       refine .skip<|.rs fun k50=>.mv Y<|.bi Y<|.as Y<|.z ?_
       exact .here ((j+1),q15) (.of (.cons Y (.cons Y (.cons Y (.cons (svI (show ((loX n o j:Int))=((loX n o (j+1):Int)) by first | exact lo_1 c3 | exact lo_0 c3 | exact hi_1 c4 | exact hi_0 c4 | rfl | omega | exact wrap_le (by omega) (by omega))) (.cons (svI (show ((hiX n o j:Int))=((hiX n o (j+1):Int)) by first | exact lo_1 c3 | exact lo_0 c3 | exact hi_1 c4 | exact hi_0 c4 | rfl | omega | exact wrap_le (by omega) (by omega))) (.cons Y (.cons (svI (show (IntKind.wrap .i64 ((j:Int)+1))=(((j+1):Int)) by first | exact lo_1 c3 | exact lo_0 c3 | exact hi_1 c4 | exact hi_0 c4 | rfl | omega | exact wrap_le (by omega) (by omega))) .nil))))))) (.cons Y (.cons (eq1 (fun z1=>some (k13+1,q15,O.box [.d (.v (.int .i64 (0))),.d (.v (.int .i64 (0))),.d (.v (.bool (false))),.d (.v (.int .i64 (z1)))])) (show (alX o j)=(alX o (j+1)) by first | exact alX_1 c2 | exact alX_0 c2 | rfl)) .nil))) ⟨(show (j+1)≤n.length by omega),(show n.length - (j+1) < n.length - j by omega)⟩
   ·have c1:=of_decide_eq_false c1
    have hje:j=n.length:=(by omega)
    refine .exit<|.seq<|.seq ?_
    refine .reg (X:=Unit) (fun ζ=>.of [(0,.one (.d (.sl false 2 1 (List.map i64c (n))))),(1,.one (.d (.sl false 2 1 (List.map i64c (o))))),(4,.one (.ptr [4] (k3) 0)),(5,.one (.d (.v (.int .i64 ((loX n o j:Int)))))),(6,.one (.d (.v (.int .i64 ((hiX n o j:Int)))))),(7,.one (.ptr [7] (k13+1) 0)),(101,.one (.d (.v (.bool ((decide ((o.getD (loX n o j) default) > 0)||decide ((o.getD (hiX n o j) default) < 0)))))))] [([4],(k3,k3,.box [.d (.v (.int .i64 (0))),.d (.v (.int .i64 (0))),.d (.v (.bool (false))),.d (.v (.int .i64 (0)))])),([7],(k13+1,q15,.box [.d (.v (.int .i64 (0))),.d (.v (.int .i64 (0))),.d (.v (.bool (false))),.d (.v (.int .i64 (alX o j)))]))]) [⟨[1],some 90,[],[]⟩,⟨[5],some 91,[],[]⟩,⟨[90,91],some 92,[],[]⟩,⟨[92],some 93,[],[]⟩,⟨[93],some 94,[],[]⟩,⟨[94],some 95,[],[]⟩,⟨[95,1],some 96,[],[]⟩,⟨[95,6],some 97,[],[]⟩,⟨[95,96,97],some 98,[],[]⟩,⟨[95,98],some 99,[],[]⟩,⟨[95,99],some 100,[],[]⟩,⟨[95,100],some 101,[],[]⟩] (fun k51=>?_) ?_
    ·skip
     refine .move (.no Y) Y Y Y Y<|.move (.no Y) Y Y Y Y<|.indexAddr (.no Y) Y (loX n o j) t62 Y t2 Y Y Y (.d _ _) Y Y Y (map_get (by omega)) Y Y<|.load (.no Y) Y t2 Y Y (.d _) Y Y Y Y<|.bin (.no Y) Y Y Y Y Y Y<|.moveB (.no Y) Y Y Y Y fun b52 g15_5=>?_
     cases b52
     ·skip
      refine .move (.on Y Y Y Y Y) Y Y Y Y<|.move (.on Y Y Y Y Y) Y Y Y Y<|.indexAddr (.on Y Y Y Y Y) Y (hiX n o j) t62 Y t2 Y Y Y (.d _ _) Y Y Y (map_get (by omega)) Y Y<|.load (.on Y Y Y Y Y) Y t2 Y Y (.d _) Y Y Y Y<|.bin (.on Y Y Y Y Y) Y Y Y Y Y Y<|.pick (.no Y) Y Y Y Y Y ?_
      exact .fin () (.of (.cons Y (.cons Y (.cons Y (.cons Y (.cons Y (.cons Y (.cons (svB (show (decide ((o.getD (hiX n o j) default) < 0))=((decide ((o.getD (loX n o j) default) > 0)||decide ((o.getD (hiX n o j) default) < 0))) by first | (simp only [g15_5,Bool.true_or,Bool.false_or,Bool.true_and,Bool.false_and,Bool.not_true,Bool.not_false]; done) | (simp [g15_5]; done) | (exfalso; simp_all; done))) .nil))))))) (.r Y))
     ·skip
      refine .off Y Y Y Y Y Y Y<|.off Y Y Y Y Y Y Y<|.off Y Y Y Y Y Y Y<|.off Y Y Y Y Y Y Y<|.off Y Y Y Y Y Y Y<|.pick (.no Y) Y Y Y Y Y ?_
      exact .fin () (.of (.cons Y (.cons Y (.cons Y (.cons Y (.cons Y (.cons Y (.cons (svB (show (true)=((decide ((o.getD (loX n o j) default) > 0)||decide ((o.getD (hiX n o j) default) < 0))) by first | (simp only [g15_5,Bool.true_or,Bool.false_or,Bool.true_and,Bool.false_and,Bool.not_true,Bool.not_false]; done) | (simp [g15_5]; done) | (exfalso; simp_all; done))) .nil))))))) (.r Y))
    intro _
    refine .cond (t:=(decide ((o.getD (loX n o j) default) > 0)||decide ((o.getD (hiX n o j) default) < 0))) Y (fun c5=>?_) (fun c5=>?_)
    ·have c5:=(oT dT dT) c5
     refine .seq<|.rs fun k53=>.lda t36 Y (.ptr _ _ _ _ _ Y) Y<|.g (fun _ τ=>⟨_,.store (.no Y) Y t36 Y Y Y Y Y Y Y Y Y τ⟩)<|.z<|.ret ?_
     have h9:=Val.parts (end_dead c0 (congrArg _ hje) (congrArg _ hje) c5 (congrArg _ hje))
     have e54:(0)=(((endV n o).iv).lo):=by with_reducible first | exact h9.1.1 | exact h9.1.2 | exact h9.2.1 | exact h9.2.2
     have e55:(0)=(((endV n o).iv).hi):=by with_reducible first | exact h9.1.1 | exact h9.1.2 | exact h9.2.1 | exact h9.2.2
     have e56:(false)=((endV n o).live):=by with_reducible first | exact h9.1.1 | exact h9.1.2 | exact h9.2.1 | exact h9.2.2
     have e57:(alX o j)=((endV n o).alarms):=by with_reducible first | exact h9.1.1 | exact h9.1.2 | exact h9.2.1 | exact h9.2.2
     have hc58:=eq4 (fun z1 z2 z3 z4=>some (k3,k53+1,O.box [.d (.v (.int .i64 (z1))),.d (.v (.int .i64 (z2))),.d (.v (.bool (z3))),.d (.v (.int .i64 (z4)))])) e54 e55 e56 e57
     exact fin0 (.inr Y) (.cell (cells:=[.d (.v (.int .i64 (((endV n o).iv).lo))),.d (.v (.int .i64 (((endV n o).iv).hi))),.d (.v (.bool ((endV n o).live))),.d (.v (.int .i64 ((endV n o).alarms)))]) Y hc58 t36 Y Y .nil) (.dd (.dd (.dd (.dd .nil)))) Y
    ·have c5:=(oF dF dF) c5
     refine .skip<|.seq<|.rs fun k59=>.fp t36 t4 Y<|.g (fun _ τ=>⟨_,.store (.no Y) Y t4 Y Y Y Y Y Y Y Y Y τ⟩)<|.z<|.seq ?_
     refine .regD (X:=Nat) (by kernel_rfl) (fun ζ=>.of [(1,.one (.d (.sl false 2 1 (List.map i64c (o))))),(4,.one (.ptr [4] (k3) 0)),(5,.one (.d (.v (.int .i64 ((loX n o j:Int)))))),(6,.one (.d (.v (.int .i64 ((hiX n o j:Int)))))),(7,.one (.ptr [7] (k13+1) 0))] [([4],(k3,k3,.box [.d (.v (.int .i64 (0))),.d (.v (.int .i64 (0))),.d (.v (.bool (false))),.d (.v (.int .i64 (0)))])),([7],(k13+1,ζ,.box [.d (.v (.int .i64 (n.getD (loX n o j) default))),.d (.v (.int .i64 (n.getD (hiX n o j) default))),.d (.v (.bool (true))),.d (.v (.int .i64 (alX o j)))]))]) [⟨[0],some 104,[],[]⟩,⟨[5],some 105,[],[]⟩,⟨[104,105],some 106,[],[]⟩,⟨[106],some 107,[],[]⟩,⟨[0],some 108,[],[]⟩,⟨[6],some 109,[],[]⟩,⟨[108,109],some 110,[],[]⟩,⟨[110],some 111,[],[]⟩,⟨[107,111],some 112,[],[]⟩,⟨[7],some 113,[],[]⟩,⟨[113,112],none,[[7]],[[7]]⟩] (by kernel_rfl) (fun k60=>?_) ?_
     ·skip
      refine .move (.no Y) Y Y Y Y<|.move (.no Y) Y Y Y Y<|.indexAddr (.no Y) Y (loX n o j) t62 Y t2 Y Y Y (.d _ _) Y Y Y (map_get (by omega)) Y Y<|.load (.no Y) Y t2 Y Y (.d _) Y Y Y Y<|.move (.no Y) Y Y Y Y<|.move (.no Y) Y Y Y Y<|.indexAddr (.no Y) Y (hiX n o j) t62 Y t2 Y Y Y (.d _ _) Y Y Y (map_get (by omega)) Y Y<|.load (.no Y) Y t2 Y Y (.d _) Y Y Y Y<|.build (.no Y) Y z34 Y p34 Y Y Y Y ?_
      refine .fieldAddrP (.no Y) Y t36 Y Y t34 Y Y Y Y<|.store (.no Y) Y t34 Y Y Y Y Y Y Y Y Y ?_
      exact .fin (k60+1+1+1+1+1+1+1+1+1+1) (.of (.r Y) (.r Y))
     intro g61
     refine .seq<|.seq<|.rs fun k62=>.mv Y<|.mv Y<|.g (fun _ τ=>⟨_,.indexAddr (.no Y) Y (loX n o j) t62 Y t2 Y Y Y (.d _ _) Y Y Y (map_get (by omega)) Y Y τ⟩)<|.ld t2 Y (.d _) Y<|.bi Y<|.z ?_
     refine .cond (t:=decide ((o.getD (loX n o j) default) < 0)) Y (fun c6=>?_) (fun c6=>?_)
     ·have c6:=of_decide_eq_true c6
      refine .rs fun k63=>.fp t36 t34 Y<|.fp t34 t2 Y<|.g (fun _ τ=>⟨_,.store (.no Y) Y t2 Y Y Y Y Y Y Y Y Y τ⟩)<|.z<|.seq<|.seq<|.rs fun k64=>.mv Y ?_
      refine .mv Y<|.g (fun _ τ=>⟨_,.indexAddr (.no Y) Y (hiX n o j) t62 Y t2 Y Y Y (.d _ _) Y Y Y (map_get (by omega)) Y Y τ⟩)<|.ld t2 Y (.d _) Y<|.bi Y<|.z ?_
      refine .cond (t:=decide ((o.getD (hiX n o j) default) > 0)) Y (fun c7=>?_) (fun c7=>?_)
      ·have c7:=of_decide_eq_true c7
       refine .rs fun k65=>.fp t36 t34 Y<|.fp t34 t2 Y<|.g (fun _ τ=>⟨_,.store (.no Y) Y t2 Y Y Y Y Y Y Y Y Y τ⟩)<|.z<|.seq<|.rs fun k66=>.lda t36 Y (.ptr _ _ _ _ _ Y) Y<|.g (fun _ τ=>⟨_,.store (.no Y) Y t36 Y Y Y Y Y Y Y Y Y τ⟩) ?_
       refine .z<|.ret ?_
       have h9:=Val.parts (end_live c0 (congrArg _ hje) (congrArg _ hje) c5 (congrArg _ hje) (by first | exact (if_pos c6).symm | exact (if_neg c6).symm) (by first | exact (if_pos c7).symm | exact (if_neg c7).symm))
       have e67:(-9223372036854775808)=(((endV n o).iv).lo):=by with_reducible first | exact h9.1.1 | exact h9.1.2 | exact h9.2.1 | exact h9.2.2
       have e68:(9223372036854775807)=(((endV n o).iv).hi):=by with_reducible first | exact h9.1.1 | exact h9.1.2 | exact h9.2.1 | exact h9.2.2
       have e69:(true)=((endV n o).live):=by with_reducible first | exact h9.1.1 | exact h9.1.2 | exact h9.2.1 | exact h9.2.2
       have e70:(alX o j)=((endV n o).alarms):=by with_reducible first | exact h9.1.1 | exact h9.1.2 | exact h9.2.1 | exact h9.2.2
       have hc71:=eq4 (fun z1 z2 z3 z4=>some (k3,k66+1,O.box [.d (.v (.int .i64 (z1))),.d (.v (.int .i64 (z2))),.d (.v (.bool (z3))),.d (.v (.int .i64 (z4)))])) e67 e68 e69 e70
       exact fin0 (.inr Y) (.cell (cells:=[.d (.v (.int .i64 (((endV n o).iv).lo))),.d (.v (.int .i64 (((endV n o).iv).hi))),.d (.v (.bool ((endV n o).live))),.d (.v (.int .i64 ((endV n o).alarms)))]) Y hc71 t36 Y Y .nil) (.dd (.dd (.dd (.dd .nil)))) Y
      ·have c7:=of_decide_eq_false c7
       refine .skip<|.seq<|.rs fun k72=>.lda t36 Y (.ptr _ _ _ _ _ Y) Y<|.g (fun _ τ=>⟨_,.store (.no Y) Y t36 Y Y Y Y Y Y Y Y Y τ⟩)<|.z<|.ret ?_
       have h9:=Val.parts (end_live c0 (congrArg _ hje) (congrArg _ hje) c5 (congrArg _ hje) (by first | exact (if_pos c6).symm | exact (if_neg c6).symm) (by first | exact (if_pos c7).symm | exact (if_neg c7).symm))
       have e73:(-9223372036854775808)=(((endV n o).iv).lo):=by with_reducible first | exact h9.1.1 | exact h9.1.2 | exact h9.2.1 | exact h9.2.2
       have e74:(n.getD (hiX n o j) default)=(((endV n o).iv).hi):=by with_reducible first | exact h9.1.1 | exact h9.1.2 | exact h9.2.1 | exact h9.2.2
       have e75:(true)=((endV n o).live):=by with_reducible first | exact h9.1.1 | exact h9.1.2 | exact h9.2.1 | exact h9.2.2
       have e76:(alX o j)=((endV n o).alarms):=by with_reducible first | exact h9.1.1 | exact h9.1.2 | exact h9.2.1 | exact h9.2.2
       have hc77:=eq4 (fun z1 z2 z3 z4=>some (k3,k72+1,O.box [.d (.v (.int .i64 (z1))),.d (.v (.int .i64 (z2))),.d (.v (.bool (z3))),.d (.v (.int .i64 (z4)))])) e73 e74 e75 e76
       exact fin0 (.inr Y) (.cell (cells:=[.d (.v (.int .i64 (((endV n o).iv).lo))),.d (.v (.int .i64 (((endV n o).iv).hi))),.d (.v (.bool ((endV n o).live))),.d (.v (.int .i64 ((endV n o).alarms)))]) Y hc77 t36 Y Y .nil) (.dd (.dd (.dd (.dd .nil)))) Y
     ·have c6:=of_decide_eq_false c6
      refine .skip<|.seq<|.seq<|.rs fun k78=>.mv Y<|.mv Y<|.g (fun _ τ=>⟨_,.indexAddr (.no Y) Y (hiX n o j) t62 Y t2 Y Y Y (.d _ _) Y Y Y (map_get (by omega)) Y Y τ⟩)<|.ld t2 Y (.d _) Y<|.bi Y ?_
      refine .z ?_
      refine .cond (t:=decide ((o.getD (hiX n o j) default) > 0)) Y (fun c7=>?_) (fun c7=>?_)
      ·have c7:=of_decide_eq_true c7
       refine .rs fun k79=>.fp t36 t34 Y<|.fp t34 t2 Y<|.g (fun _ τ=>⟨_,.store (.no Y) Y t2 Y Y Y Y Y Y Y Y Y τ⟩)<|.z<|.seq<|.rs fun k80=>.lda t36 Y (.ptr _ _ _ _ _ Y) Y<|.g (fun _ τ=>⟨_,.store (.no Y) Y t36 Y Y Y Y Y Y Y Y Y τ⟩) ?_
       refine .z<|.ret ?_
       have h9:=Val.parts (end_live c0 (congrArg _ hje) (congrArg _ hje) c5 (congrArg _ hje) (by first | exact (if_pos c6).symm | exact (if_neg c6).symm) (by first | exact (if_pos c7).symm | exact (if_neg c7).symm))
       have e81:(n.getD (loX n o j) default)=(((endV n o).iv).lo):=by with_reducible first | exact h9.1.1 | exact h9.1.2 | exact h9.2.1 | exact h9.2.2
       have e82:(9223372036854775807)=(((endV n o).iv).hi):=by with_reducible first | exact h9.1.1 | exact h9.1.2 | exact h9.2.1 | exact h9.2.2
       have e83:(true)=((endV n o).live):=by with_reducible first | exact h9.1.1 | exact h9.1.2 | exact h9.2.1 | exact h9.2.2
       have e84:(alX o j)=((endV n o).alarms):=by with_reducible first | exact h9.1.1 | exact h9.1.2 | exact h9.2.1 | exact h9.2.2
       have hc85:=eq4 (fun z1 z2 z3 z4=>some (k3,k80+1,O.box [.d (.v (.int .i64 (z1))),.d (.v (.int .i64 (z2))),.d (.v (.bool (z3))),.d (.v (.int .i64 (z4)))])) e81 e82 e83 e84
       exact fin0 (.inr Y) (.cell (cells:=[.d (.v (.int .i64 (((endV n o).iv).lo))),.d (.v (.int .i64 (((endV n o).iv).hi))),.d (.v (.bool ((endV n o).live))),.d (.v (.int .i64 ((endV n o).alarms)))]) Y hc85 t36 Y Y .nil) (.dd (.dd (.dd (.dd .nil)))) Y
      ·have c7:=of_decide_eq_false c7
       refine .skip<|.seq<|.rs fun k86=>.lda t36 Y (.ptr _ _ _ _ _ Y) Y<|.g (fun _ τ=>⟨_,.store (.no Y) Y t36 Y Y Y Y Y Y Y Y Y τ⟩)<|.z<|.ret ?_
       have h9:=Val.parts (end_live c0 (congrArg _ hje) (congrArg _ hje) c5 (congrArg _ hje) (by first | exact (if_pos c6).symm | exact (if_neg c6).symm) (by first | exact (if_pos c7).symm | exact (if_neg c7).symm))
       have e87:(n.getD (loX n o j) default)=(((endV n o).iv).lo):=by with_reducible first | exact h9.1.1 | exact h9.1.2 | exact h9.2.1 | exact h9.2.2
       have e88:(n.getD (hiX n o j) default)=(((endV n o).iv).hi):=by with_reducible first | exact h9.1.1 | exact h9.1.2 | exact h9.2.1 | exact h9.2.2
       have e89:(true)=((endV n o).live):=by with_reducible first | exact h9.1.1 | exact h9.1.2 | exact h9.2.1 | exact h9.2.2
       have e90:(alX o j)=((endV n o).alarms):=by with_reducible first | exact h9.1.1 | exact h9.1.2 | exact h9.2.1 | exact h9.2.2
       have hc91:=eq4 (fun z1 z2 z3 z4=>some (k3,k86+1,O.box [.d (.v (.int .i64 (z1))),.d (.v (.int .i64 (z2))),.d (.v (.bool (z3))),.d (.v (.int .i64 (z4)))])) e87 e88 e89 e90
       exact fin0 (.inr Y) (.cell (cells:=[.d (.v (.int .i64 (((endV n o).iv).lo))),.d (.v (.int .i64 (((endV n o).iv).hi))),.d (.v (.bool ((endV n o).live))),.d (.v (.int .i64 ((endV n o).alarms)))]) Y hc91 t36 Y Y .nil) (.dd (.dd (.dd (.dd .nil)))) Y
end Go.Proofs

namespace Go.Proofs
open Go Go.Proofs Go.Ev

set_option maxHeartbeats 4000000 in
theorem c_l2Box (o:Int) (a:Iv) (l:List Iv) (ha:FitI a) (hl:l.length≤2∧∀ x∈l,FitI x):Trip Tryz.prog 136 [(false,1),(true,2),(false,1)] ([.v (.int .i64 (o))]++Iv.c a++[.sl false 34 2 (List.map Iv.c (l))]) [(true,4)] [.v (.int .i64 (((valC (l.flatMap (cornS o a))).iv).lo)),.v (.int .i64 (((valC (l.flatMap (cornS o a))).iv).hi)),.v (.bool ((valC (l.flatMap (cornS o a))).live)),.v (.int .i64 ((valC (l.flatMap (cornS o a))).alarms))] []:=by
 refine Trip.of Tryz.func136 (by decide) (c:=_) Y Y (Nat.le_of_ble_eq_true Y) Y (AftOk.nil _)<|.sl (t:=2) Y fun hs1l=>.seq<|.rs fun k2=>.g (fun _ τ=>⟨_,.box (.no Y) Y Y Y Y Y τ⟩)<|.g (fun _ τ=>⟨_,.alloc (.no Y) Y z36 Y Y Y τ⟩)<|.z<|.seq<|.rs fun k3=>?_
 refine .g (fun _ τ=>⟨_,.buildSlice (.no Y) Y (els:=[]) t62 Y z2 Y Y Y Y Y Y Y Y (by simp [i2]) .nil Y Y Y τ⟩)<|.as Y<|.z<|.seq<|.rs fun k4=>.g (fun _ τ=>⟨_,.buildSlice (.no Y) Y (els:=[]) t62 Y z2 Y Y Y Y Y Y Y Y (by simp [i2]) .nil Y Y Y τ⟩)<|.as Y<|.z<|.seq ?_
 refine .seq<|.rs fun k5=>.as Y<|.z<|.block ?_
 refine .loop (X:=Nat × Nat × Nat × Nat × Nat) (fun ζ=>.of [(0,.one (.d (.v (.int .i64 (o))))),(2,.one (.d (.sl false 34 2 (List.map Iv.c (l))))),(4,.one (.ptr [4] (k2) 0)),(6,.one (.ptr [6] (k2+1) 0)),(7,.one (.ref [14] (ζ.2.1))),(8,.one (.ref [15] (ζ.2.2.2.1))),(9,.one (.d (.v (.int .i64 ((ζ.1:Int))))))] [([4],(k2,k2,.box [.d (.v (.int .i64 (a.lo))),.d (.v (.int .i64 (a.hi)))])),([6],(k2+1,k2+1,.box [.d (.v (.int .i64 (0))),.d (.v (.int .i64 (0))),.d (.v (.bool (false))),.d (.v (.int .i64 (0)))])),([14],(ζ.2.1,ζ.2.2.1,.row 2 1 (List.map i64c ((boxL o a l ζ.1 0).map fitN)))),([15],(ζ.2.2.2.1,ζ.2.2.2.2,.row 2 1 (List.map i64c ((boxL o a l ζ.1 0).map fitO))))]) (fun ζ=>ζ.1≤l.length) (fun ζ=>l.length - ζ.1) ?_ ?_
 ·skip
  exact .here (0,k3,k3,k4,k4) (.of (.cons Y (.cons Y (.cons Y (.cons Y (.cons Y (.cons Y (.cons (svI (show (0)=((0:Int)) by first | rfl | omega | exact wrap_le (by omega) (by omega) | (rw [wrap_le (by omega) (by omega)]; omega))) .nil))))))) (.cons Y (.cons Y (.cons (rowE (show []=List.map i64c ((boxL o a l 0 0).map fitN) by first | rfl | exact congrArg _ (box_n (by omega)) | exact congrArg _ (box_o (by omega)) | (rw [box_zero]; rfl) | (have hu9:u=4:=(by omega); subst hu9; rw [box_next (by omega)]))) (.cons (rowE (show []=List.map i64c ((boxL o a l 0 0).map fitO) by first | rfl | exact congrArg _ (box_n (by omega)) | exact congrArg _ (box_o (by omega)) | (rw [box_zero]; rfl) | (have hu9:u=4:=(by omega); subst hu9; rw [box_next (by omega)]))) .nil))))) (show 0≤l.length by omega)
 ·rintro ⟨i,q6,q7,q8,q9⟩ hI
  have hI:i≤l.length:=hI
  dsimp only
  refine .seq<|.seq<|.rs fun k10=>.mv Y<|.mv Y<|.g (fun _ τ=>⟨_,.len (.no Y) Y (z:=(l.length:Int)) t44 Y Y Y (.d _ _) (map_len _ _) Y τ⟩)<|.bi Y<|.z ?_
  refine .cond (t:=decide ((i:Int) < (l.length:Int))) Y (fun c0=>?_) (fun c0=>?_)
  ·have c0:=of_decide_eq_true c0
   refine .skip<|.seq<|.block<|.seq<|.rs fun k11=>.mv Y<|.mv Y<|.g (fun _ τ=>⟨_,.indexAddr (.no Y) Y (i) t44 Y t34 Y Y Y (.d _ _) Y Y Y (map_get (by omega)) Y Y τ⟩)<|.lda t34 Y (.d _) Y ?_
   refine .g (fun _ τ=>⟨_,.alloc (.no Y) Y z34 Y Y Y τ⟩)<|.g (fun _ τ=>⟨_,.store (.no Y) Y t34 Y Y Y Y Y Y Y Y Y τ⟩)<|.z<|.seq<|.rs fun k12=>.as Y<|.z<|.block ?_
   refine .loop (X:=Nat × Nat × Nat × Nat × Nat) (fun ζ=>.of [(0,.one (.d (.v (.int .i64 (o))))),(2,.one (.d (.sl false 34 2 (List.map Iv.c (l))))),(4,.one (.ptr [4] (k2) 0)),(6,.one (.ptr [6] (k2+1) 0)),(7,.one (.ref [14] (ζ.2.1))),(8,.one (.ref [15] (ζ.2.2.2.1))),(9,.one (.d (.v (.int .i64 ((i:Int)))))),(10,.one (.ptr [10] (k11+1+1+1+1) 0)),(11,.one (.d (.v (.int .i64 ((ζ.1:Int))))))] [([4],(k2,k2,.box [.d (.v (.int .i64 (a.lo))),.d (.v (.int .i64 (a.hi)))])),([6],(k2+1,k2+1,.box [.d (.v (.int .i64 (0))),.d (.v (.int .i64 (0))),.d (.v (.bool (false))),.d (.v (.int .i64 (0)))])),([10],(k11+1+1+1+1,k11+1+1+1+1+1,.box [.d (.v (.int .i64 ((l.getD i default).lo))),.d (.v (.int .i64 ((l.getD i default).hi)))])),([14],(ζ.2.1,ζ.2.2.1,.row 2 1 (List.map i64c ((boxL o a l i ζ.1).map fitN)))),([15],(ζ.2.2.2.1,ζ.2.2.2.2,.row 2 1 (List.map i64c ((boxL o a l i ζ.1).map fitO))))]) (fun ζ=>ζ.1≤4) (fun ζ=>4 - ζ.1) ?_ ?_
   ·skip
    exact .here (0,q6,q7,q8,q9) (.of (.cons Y (.cons Y (.cons Y (.cons Y (.cons Y (.cons Y (.cons Y (.cons Y (.cons (svI (show (0)=((0:Int)) by first | rfl | omega | exact wrap_le (by omega) (by omega) | (rw [wrap_le (by omega) (by omega)]; omega))) .nil))))))))) (.r Y)) (show 0≤4 by omega)
   ·rintro ⟨u,q13,q14,q15,q16⟩ hI
    have hI:u≤4:=hI
    dsimp only
    refine .seq<|.seq<|.rs fun k17=>.mv Y<|.bi Y<|.z ?_
    refine .cond (t:=decide ((u:Int) < 4)) Y (fun c1=>?_) (fun c1=>?_)
    ·have c1:=of_decide_eq_true c1
     refine .skip<|.seq<|.block<|.seq ?_
     refine .regD (X:=Unit) (by kernel_rfl) (fun ζ=>.of [(0,.one (.d (.v (.int .i64 (o))))),(2,.one (.d (.sl false 34 2 (List.map Iv.c (l))))),(4,.one (.ptr [4] (k2) 0)),(6,.one (.ptr [6] (k2+1) 0)),(7,.one (.ref [14] (q13))),(8,.one (.ref [15] (q15))),(9,.one (.d (.v (.int .i64 ((i:Int)))))),(10,.one (.ptr [10] (k11+1+1+1+1) 0)),(11,.one (.d (.v (.int .i64 ((u:Int)))))),(12,.one (.d (.v (.int .i64 (fitN (cnX o (([a.lo,a.hi]).getD ((Int.tmod (u:Int) 2).toNat) default) (([(l.getD i default).lo,(l.getD i default).hi]).getD ((Int.tdiv (u:Int) 2).toNat) default))))))),(13,.one (.d (.v (.int .i64 (fitO (cnX o (([a.lo,a.hi]).getD ((Int.tmod (u:Int) 2).toNat) default) (([(l.getD i default).lo,(l.getD i default).hi]).getD ((Int.tdiv (u:Int) 2).toNat) default)))))))] [([4],(k2,k2,.box [.d (.v (.int .i64 (a.lo))),.d (.v (.int .i64 (a.hi)))])),([6],(k2+1,k2+1,.box [.d (.v (.int .i64 (0))),.d (.v (.int .i64 (0))),.d (.v (.bool (false))),.d (.v (.int .i64 (0)))])),([10],(k11+1+1+1+1,k11+1+1+1+1+1,.box [.d (.v (.int .i64 ((l.getD i default).lo))),.d (.v (.int .i64 ((l.getD i default).hi)))])),([14],(q13,q14,.row 2 1 (List.map i64c ((boxL o a l i u).map fitN)))),([15],(q15,q16,.row 2 1 (List.map i64c ((boxL o a l i u).map fitO))))]) [⟨[0],some 31,[],[]⟩,⟨[4],some 32,[],[]⟩,⟨[32],some 33,[[4]],[]⟩,⟨[4],some 34,[],[]⟩,⟨[34],some 35,[[4]],[]⟩,⟨[33,35],some 36,[],[[36]]⟩,⟨[11],some 37,[],[]⟩,⟨[37],some 38,[],[]⟩,⟨[36,38],some 39,[[36]],[]⟩,⟨[39],some 40,[[36]],[]⟩,⟨[10],some 41,[],[]⟩,⟨[41],some 42,[[10]],[]⟩,⟨[10],some 43,[],[]⟩,⟨[43],some 44,[[10]],[]⟩,⟨[42,44],some 45,[],[[45]]⟩,⟨[11],some 46,[],[]⟩,⟨[46],some 47,[],[]⟩,⟨[45,47],some 48,[[45]],[]⟩,⟨[48],some 49,[[45]],[]⟩,⟨[31,40,49],some 50,[],[]⟩,⟨[50],some 30,[],[]⟩,⟨[30],some 51,[],[]⟩,⟨[30],some 52,[],[]⟩,⟨[51],some 12,[],[]⟩,⟨[52],some 13,[],[]⟩] (by kernel_rfl) (fun k18=>?_) ?_
     ·skip
      refine .move (.no Y) Y Y Y Y<|.fieldAddrP (.no Y) Y t34 Y Y t2 Y Y Y Y<|.load (.no Y) Y t2 Y Y (.ptr _ _ _ _ _ Y) Y Y Y Y<|.fieldAddrP (.no Y) Y t34 Y Y t2 Y Y Y Y<|.load (.no Y) Y t2 Y Y (.ptr _ _ _ _ _ Y) Y Y Y Y<|.buildSlice (.no Y) Y (els:=[[.v (.int .i64 (a.lo))],[.v (.int .i64 (a.hi))]]) t62 Y z2 Y Y Y Y Y Y Y Y (by simp [i2]) (.cons _ _ _ _ _ _ (.d _) (.cons _ _ _ _ _ _ (.d _) .nil)) Y Y Y<|.move (.no Y) Y Y Y Y<|.quoRem (.no Y) Y (.inr ⟨rfl,rfl⟩) Y Y Y Y Y ?_
      refine .indexAddr (.no Y) Y ((Int.tmod (u:Int) 2).toNat) t62 Y t2 Y Y Y (.ref _ _ _ _ _ Y) Y Y (by (first | omega | (have h9:Int.tmod (u:Int) 2=(u:Int) % 2:=Int.tmod_eq_emod_of_nonneg (by omega); omega) | (have h9:Int.tdiv (u:Int) 2=(u:Int) / 2:=Int.tdiv_eq_ediv_of_nonneg (by omega); omega) | (have h9:Int.tdiv (u:Int) 2=(u:Int) / 2:=Int.tdiv_eq_ediv_of_nonneg (by omega); rw [wrap_le (by omega) (by omega)]; omega))) (map_get (c:=i64c) (L:=[_,_]) (by have h9:Int.tmod (u:Int) 2=(u:Int) % 2:=Int.tmod_eq_emod_of_nonneg (by omega); have h8:Int.tdiv (u:Int) 2=(u:Int) / 2:=Int.tdiv_eq_ediv_of_nonneg (by omega); show _ < 2; omega)) Y Y ?_
      refine .load (.no Y) Y t2 Y Y (.eptr _ _ _ _ _ _ _ _ _ Y (map_get (c:=i64c) (L:=[_,_]) (by have h9:Int.tmod (u:Int) 2=(u:Int) % 2:=Int.tmod_eq_emod_of_nonneg (by omega); have h8:Int.tdiv (u:Int) 2=(u:Int) / 2:=Int.tdiv_eq_ediv_of_nonneg (by omega); show _ < 2; omega))) Y Y Y Y<|.fieldAddrP (.no Y) Y t34 Y Y t2 Y Y Y Y<|.load (.no Y) Y t2 Y Y (.ptr _ _ _ _ _ Y) Y Y Y Y<|.fieldAddrP (.no Y) Y t34 Y Y t2 Y Y Y Y<|.load (.no Y) Y t2 Y Y (.ptr _ _ _ _ _ Y) Y Y Y Y<|.buildSlice (.no Y) Y (els:=[[.v (.int .i64 ((l.getD i default).lo))],[.v (.int .i64 ((l.getD i default).hi))]]) t62 Y z2 Y Y Y Y Y Y Y Y (by simp [i2]) (.cons _ _ _ _ _ _ (.d _) (.cons _ _ _ _ _ _ (.d _) .nil)) Y Y Y<|.move (.no Y) Y Y Y Y ?_
      refine .quoRem (.no Y) Y (.inl ⟨rfl,rfl⟩) Y Y Y Y Y<|.indexAddr (.no Y) Y ((Int.tdiv (u:Int) 2).toNat) t62 Y t2 Y Y Y (.ref _ _ _ _ _ Y) Y Y (by (first | omega | (have h9:Int.tmod (u:Int) 2=(u:Int) % 2:=Int.tmod_eq_emod_of_nonneg (by omega); omega) | (have h9:Int.tdiv (u:Int) 2=(u:Int) / 2:=Int.tdiv_eq_ediv_of_nonneg (by omega); omega) | (have h9:Int.tdiv (u:Int) 2=(u:Int) / 2:=Int.tdiv_eq_ediv_of_nonneg (by omega); rw [wrap_le (by omega) (by omega)]; omega))) (map_get (c:=i64c) (L:=[_,_]) (by have h9:Int.tmod (u:Int) 2=(u:Int) % 2:=Int.tmod_eq_emod_of_nonneg (by omega); have h8:Int.tdiv (u:Int) 2=(u:Int) / 2:=Int.tdiv_eq_ediv_of_nonneg (by omega); show _ < 2; omega)) Y Y ?_
      refine .load (.no Y) Y t2 Y Y (.eptr _ _ _ _ _ _ _ _ _ Y (map_get (c:=i64c) (L:=[_,_]) (by have h9:Int.tmod (u:Int) 2=(u:Int) % 2:=Int.tmod_eq_emod_of_nonneg (by omega); have h8:Int.tdiv (u:Int) 2=(u:Int) / 2:=Int.tdiv_eq_ediv_of_nonneg (by omega); show _ < 2; omega))) Y Y Y Y ?_
      refine .call (.no Y) Y [] [] (c_l2Corner o (([a.lo,a.hi]).getD ((Int.tmod (u:Int) 2).toNat) default) (([(l.getD i default).lo,(l.getD i default).hi]).getD ((Int.tdiv (u:Int) 2).toNat) default) (by first | assumption | omega | exact two_fit ha.1 ha.2 (by have h9:Int.tmod (u:Int) 2=(u:Int) % 2:=Int.tmod_eq_emod_of_nonneg (by omega); omega) | exact two_fit (hl.2 _ (getD_mem (by omega))).1 (hl.2 _ (getD_mem (by omega))).2 (by have h8:Int.tdiv (u:Int) 2=(u:Int) / 2:=Int.tdiv_eq_ediv_of_nonneg (by omega); omega) | (have h9:=box_len (o:=o) (a:=a) (l:=l) (i:=i) (u:=0); exact ⟨by simp,by simp; omega⟩)) (by first | assumption | omega | exact two_fit ha.1 ha.2 (by have h9:Int.tmod (u:Int) 2=(u:Int) % 2:=Int.tmod_eq_emod_of_nonneg (by omega); omega) | exact two_fit (hl.2 _ (getD_mem (by omega))).1 (hl.2 _ (getD_mem (by omega))).2 (by have h8:Int.tdiv (u:Int) 2=(u:Int) / 2:=Int.tdiv_eq_ediv_of_nonneg (by omega); omega) | (have h9:=box_len (o:=o) (a:=a) (l:=l) (i:=i) (u:=0); exact ⟨by simp,by simp; omega⟩))) Y Y Y Y Y (.dd (.dd (.dd .nil))) Y Y (fun h=>absurd Y h) (.own [50,0] (.own [50,1] .nil)) (.nil) Y Y Y (by simp) Y Y Y ?_
      refine .move (.no Y) Y Y Y Y<|.extract (.no Y) Y Y Y Y Y<|.extract (.no Y) Y Y Y Y Y<|.assign (.no Y) Y Y Y Y<|.assign (.no Y) Y Y Y Y ?_
      exact .fin () (.of (.r Y) (.r Y))
     intro _
     refine .seq<|.rs fun k19=>.mv Y<|.mv Y<|.g (fun _ τ=>⟨_,.buildSlice (.no Y) Y (els:=[[.v (.int .i64 (fitN (cnX o (([a.lo,a.hi]).getD ((Int.tmod (u:Int) 2).toNat) default) (([(l.getD i default).lo,(l.getD i default).hi]).getD ((Int.tdiv (u:Int) 2).toNat) default))))]]) t62 Y z2 Y Y Y Y Y Y Y Y (by simp [i2]) (.cons _ _ _ _ _ _ (.d _) .nil) Y Y Y τ⟩)<|.g (fun _ τ=>⟨_,.append (.no Y) Y (l3:=List.map i64c ((boxL o a l i u).map fitN++[fitN (cnX o (([a.lo,a.hi]).getD ((Int.tmod (u:Int) 2).toNat) default) (([(l.getD i default).lo,(l.getD i default).hi]).getD ((Int.tdiv (u:Int) 2).toNat) default))])) t62 Y z2 Y Y Y Y Y Y Y Y (.ref _ _ _ _ Y) (.take _ _ _ _ _ Y) Y (by (have h9:=box_len (o:=o) (a:=a) (l:=l) (i:=i) (u:=u); simp [i2]<;>omega)) (map_snoc _ _ _) Y Y τ⟩) ?_
     refine .as Y<|.z<|.rs fun k20=>.mv Y<|.mv Y<|.g (fun _ τ=>⟨_,.buildSlice (.no Y) Y (els:=[[.v (.int .i64 (fitO (cnX o (([a.lo,a.hi]).getD ((Int.tmod (u:Int) 2).toNat) default) (([(l.getD i default).lo,(l.getD i default).hi]).getD ((Int.tdiv (u:Int) 2).toNat) default))))]]) t62 Y z2 Y Y Y Y Y Y Y Y (by simp [i2]) (.cons _ _ _ _ _ _ (.d _) .nil) Y Y Y τ⟩) ?_
     refine .g (fun _ τ=>⟨_,.append (.no Y) Y (l3:=List.map i64c ((boxL o a l i u).map fitO++[fitO (cnX o (([a.lo,a.hi]).getD ((Int.tmod (u:Int) 2).toNat) default) (([(l.getD i default).lo,(l.getD i default).hi]).getD ((Int.tdiv (u:Int) 2).toNat) default))])) t62 Y z2 Y Y Y Y Y Y Y Y (.ref _ _ _ _ Y) (.take _ _ _ _ _ Y) Y (by (have h9:=box_len (o:=o) (a:=a) (l:=l) (i:=i) (u:=u); simp [i2]<;>omega)) (map_snoc _ _ _) Y Y τ⟩)<|.as Y<|.z<|.rs fun k21=>.mv Y<|.bi Y<|.as Y<|.z ?_
     exact .here ((u+1),(k19+1+1+1),(k19+1+1+1),(k20+1+1+1),(k20+1+1+1)) (.of (.cons Y (.cons Y (.cons Y (.cons Y (.cons (by show SV.one (.ref [14] (k19+1+1+1))=SV.one (.ref [14] ((k19+1+1+1))); first | rfl | simp_all) (.cons (by show SV.one (.ref [15] (k20+1+1+1))=SV.one (.ref [15] ((k20+1+1+1))); first | rfl | simp_all) (.cons Y (.cons Y (.cons (svI (show (IntKind.wrap .i64 ((u:Int)+1))=(((u+1):Int)) by first | rfl | omega | exact wrap_le (by omega) (by omega) | (rw [wrap_le (by omega) (by omega)]; omega))) .nil))))))))) (.cons Y (.cons Y (.cons Y (.cons (rowE (show List.map i64c ((boxL o a l i u).map fitN++[fitN (cnX o (([a.lo,a.hi]).getD ((Int.tmod (u:Int) 2).toNat) default) (([(l.getD i default).lo,(l.getD i default).hi]).getD ((Int.tdiv (u:Int) 2).toNat) default))])=List.map i64c ((boxL o a l i (u+1)).map fitN) by first | rfl | exact congrArg _ (box_n (by omega)) | exact congrArg _ (box_o (by omega)) | (rw [box_zero]; rfl) | (have hu9:u=4:=(by omega); subst hu9; rw [box_next (by omega)]))) (.cons (rowE (show List.map i64c ((boxL o a l i u).map fitO++[fitO (cnX o (([a.lo,a.hi]).getD ((Int.tmod (u:Int) 2).toNat) default) (([(l.getD i default).lo,(l.getD i default).hi]).getD ((Int.tdiv (u:Int) 2).toNat) default))])=List.map i64c ((boxL o a l i (u+1)).map fitO) by first | rfl | exact congrArg _ (box_n (by omega)) | exact congrArg _ (box_o (by omega)) | (rw [box_zero]; rfl) | (have hu9:u=4:=(by omega); subst hu9; rw [box_next (by omega)]))) .nil)))))) ⟨(show (u+1)≤4 by omega),(show 4 - (u+1) < 4 - u by omega)⟩
    ·have c1:=of_decide_eq_false c1
     refine .exit<|.rs fun k22=>.mv Y<|.bi Y<|.as Y<|.z ?_
     exact .here ((i+1),q13,q14,q15,q16) (.of (.cons Y (.cons Y (.cons Y (.cons Y (.cons Y (.cons Y (.cons (svI (show (IntKind.wrap .i64 ((i:Int)+1))=(((i+1):Int)) by first | rfl | omega | exact wrap_le (by omega) (by omega) | (rw [wrap_le (by omega) (by omega)]; omega))) .nil))))))) (.cons Y (.cons Y (.cons (rowE (show List.map i64c ((boxL o a l i u).map fitN)=List.map i64c ((boxL o a l (i+1) 0).map fitN) by first | rfl | exact congrArg _ (box_n (by omega)) | exact congrArg _ (box_o (by omega)) | (rw [box_zero]; rfl) | (have hu9:u=4:=(by omega); subst hu9; rw [box_next (by omega)]))) (.cons (rowE (show List.map i64c ((boxL o a l i u).map fitO)=List.map i64c ((boxL o a l (i+1) 0).map fitO) by first | rfl | exact congrArg _ (box_n (by omega)) | exact congrArg _ (box_o (by omega)) | (rw [box_zero]; rfl) | (have hu9:u=4:=(by omega); subst hu9; rw [box_next (by omega)]))) .nil))))) ⟨(show (i+1)≤l.length by omega),(show l.length - (i+1) < l.length - i by omega)⟩
  ·have c0:=of_decide_eq_false c0
   refine .exit<|.seq<|.rs fun k23=>.mv Y<|.mv Y ?_
   refine .g (fun _ τ=>⟨_,.call (.no Y) Y [[14],[15]] [([14],(q6,q7,.row 2 1 (List.map i64c ((boxL o a l i 0).map fitN)))),([15],(q8,q9,.row 2 1 (List.map i64c ((boxL o a l i 0).map fitO))))] (c_l2Ends ((boxL o a l i 0).map fitN) ((boxL o a l i 0).map fitO) (by first | assumption | omega | exact two_fit ha.1 ha.2 (by have h9:Int.tmod (u:Int) 2=(u:Int) % 2:=Int.tmod_eq_emod_of_nonneg (by omega); omega) | exact two_fit (hl.2 _ (getD_mem (by omega))).1 (hl.2 _ (getD_mem (by omega))).2 (by have h8:Int.tdiv (u:Int) 2=(u:Int) / 2:=Int.tdiv_eq_ediv_of_nonneg (by omega); omega) | (have h9:=box_len (o:=o) (a:=a) (l:=l) (i:=i) (u:=0); exact ⟨by simp,by simp; omega⟩))) Y Y Y Y Y (.cons (Reads.ref (Frz.of_erase (erase_slo _ _ _ _ _ _ i64c_e)) (.head _) (.head _)).gives (.cons (Reads.ref (Frz.of_erase (erase_slo _ _ _ _ _ _ i64c_e)) (.tail _ (.head _)) (.tail _ (.head _))).gives .nil)) Y Y (fun _=>(ownCons (Owned.v _) (ownCons (Owned.v _) (ownCons (Owned.v _) (ownCons (Owned.v _) ownNil))))) (.own [63,0] (.own [63,1] (.own [63,2] (.own [63,3] .nil)))) (.nil) Y Y Y (AllH.get (.r Y)) Y Y Y τ⟩) ?_
   refine .g (fun _ τ=>⟨_,.store (.no Y) Y t36 Y Y Y Y Y Y Y Y Y τ⟩)<|.z<|.ret ?_
   have h9:=Val.eqs ((congrArg (fun z=>endV (List.map fitN z) (List.map fitO z)) (box_end (o:=o) (a:=a) (l:=l) (i:=i) (by omega))).trans (end_val _))
   have e24:(((endV ((boxL o a l i 0).map fitN) ((boxL o a l i 0).map fitO)).iv).lo)=(((valC (l.flatMap (cornS o a))).iv).lo):=by with_reducible first | exact h9.1.1 | exact h9.1.2 | exact h9.2.1 | exact h9.2.2
   have e25:(((endV ((boxL o a l i 0).map fitN) ((boxL o a l i 0).map fitO)).iv).hi)=(((valC (l.flatMap (cornS o a))).iv).hi):=by with_reducible first | exact h9.1.1 | exact h9.1.2 | exact h9.2.1 | exact h9.2.2
   have e26:((endV ((boxL o a l i 0).map fitN) ((boxL o a l i 0).map fitO)).live)=((valC (l.flatMap (cornS o a))).live):=by with_reducible first | exact h9.1.1 | exact h9.1.2 | exact h9.2.1 | exact h9.2.2
   have e27:((endV ((boxL o a l i 0).map fitN) ((boxL o a l i 0).map fitO)).alarms)=((valC (l.flatMap (cornS o a))).alarms):=by with_reducible first | exact h9.1.1 | exact h9.1.2 | exact h9.2.1 | exact h9.2.2
   have hc28:=eq4 (fun z1 z2 z3 z4=>some (k2+1,k23+1+1+1,O.box [.d (.v (.int .i64 (z1))),.d (.v (.int .i64 (z2))),.d (.v (.bool (z3))),.d (.v (.int .i64 (z4)))])) e24 e25 e26 e27
   exact fin0 (.inr Y) (.cell (cells:=[.d (.v (.int .i64 (((valC (l.flatMap (cornS o a))).iv).lo))),.d (.v (.int .i64 (((valC (l.flatMap (cornS o a))).iv).hi))),.d (.v (.bool ((valC (l.flatMap (cornS o a))).live))),.d (.v (.int .i64 ((valC (l.flatMap (cornS o a))).alarms)))]) Y hc28 t36 Y Y .nil) (.dd (.dd (.dd (.dd .nil)))) Y
end Go.Proofs

namespace Go.Proofs
open Go Go.Proofs Go.Ev

theorem c_l2Op (o:Int) (a:Iv) (b:Iv) (ha:FitI a) (hb:FitI b):Trip Tryz.prog 135 [(false,1),(true,2),(true,2)] ([.v (.int .i64 (o))]++Iv.c a++Iv.c b) [(true,4)] [.v (.int .i64 (((opV o a b).iv).lo)),.v (.int .i64 (((opV o a b).iv).hi)),.v (.bool ((opV o a b).live)),.v (.int .i64 ((opV o a b).alarms))] []:=by
 refine Trip.of Tryz.func135 (by decide) (c:=_) Y Y (Nat.le_of_ble_eq_true Y) Y (AftOk.nil _)<|.seq<|.rs fun k1=>.g (fun _ τ=>⟨_,.box (.no Y) Y Y Y Y Y τ⟩)<|.g (fun _ τ=>⟨_,.box (.no Y) Y Y Y Y Y τ⟩)<|.g (fun _ τ=>⟨_,.alloc (.no Y) Y z36 Y Y Y τ⟩)<|.z<|.seq<|.seq ?_
 refine .reg (X:=Unit) (fun ζ=>.of [(0,.one (.d (.v (.int .i64 (o))))),(4,.one (.ptr [4] (k1) 0)),(5,.one (.ptr [5] (k1+1) 0)),(6,.one (.ptr [6] (k1+1+1) 0)),(14,.one (.d (.v (.bool ((!(Iv.ok a)||!(Iv.ok b)))))))] [([4],(k1,k1,.box [.d (.v (.int .i64 (a.lo))),.d (.v (.int .i64 (a.hi)))])),([5],(k1+1,k1+1,.box [.d (.v (.int .i64 (b.lo))),.d (.v (.int .i64 (b.hi)))])),([6],(k1+1+1,k1+1+1,.box [.d (.v (.int .i64 (0))),.d (.v (.int .i64 (0))),.d (.v (.bool (false))),.d (.v (.int .i64 (0)))]))]) [⟨[4],some 7,[[4]],[]⟩,⟨[7],some 8,[],[]⟩,⟨[8],some 9,[],[]⟩,⟨[9],some 10,[],[]⟩,⟨[10,5],some 11,[[5]],[]⟩,⟨[10,11],some 12,[],[]⟩,⟨[10,12],some 13,[],[]⟩,⟨[10,13],some 14,[],[]⟩] (fun k2=>?_) ?_
 ·skip
  refine .load (.no Y) Y t34 Y Y (.ptr _ _ _ _ _ Y) Y Y Y Y<|.call (.no Y) Y [] [] (c_sIvOk a) Y Y Y Y Y (.dd (.dd .nil)) Y Y (fun h=>absurd Y h) (.own [8,0] .nil) (.nil) Y Y Y (by simp) Y Y Y<|.un (.no Y) Y Y Y Y Y<|.moveB (.no Y) Y Y Y Y fun b3 g1_3=>?_
  cases b3
  ·skip
   refine .load (.on Y Y Y Y Y) Y t34 Y Y (.ptr _ _ _ _ _ Y) Y Y Y Y<|.call (.on Y Y Y Y Y) Y [] [] (c_sIvOk b) Y Y Y Y Y (.dd (.dd .nil)) Y Y (fun h=>absurd Y h) (.own [12,0] .nil) (.nil) Y Y Y (by simp) Y Y Y<|.un (.on Y Y Y Y Y) Y Y Y Y Y<|.pick (.no Y) Y Y Y Y Y ?_
   exact .fin () (.of (.cons Y (.cons Y (.cons Y (.cons Y (.cons (svB (show (!(Iv.ok b))=((!(Iv.ok a)||!(Iv.ok b))) by first | (simp only [g1_3,Bool.true_or,Bool.false_or,Bool.true_and,Bool.false_and,Bool.not_true,Bool.not_false]; done) | (simp [g1_3]; done) | (exfalso; simp_all; done))) .nil))))) (.r Y))
  ·skip
   refine .off Y Y Y Y Y Y Y<|.off Y Y Y Y Y Y Y<|.off Y Y Y Y Y Y Y<|.pick (.no Y) Y Y Y Y Y ?_
   exact .fin () (.of (.cons Y (.cons Y (.cons Y (.cons Y (.cons (svB (show (true)=((!(Iv.ok a)||!(Iv.ok b))) by first | (simp only [g1_3,Bool.true_or,Bool.false_or,Bool.true_and,Bool.false_and,Bool.not_true,Bool.not_false]; done) | (simp [g1_3]; done) | (exfalso; simp_all; done))) .nil))))) (.r Y))
 intro _
 refine .cond (t:=(!(Iv.ok a)||!(Iv.ok b))) Y (fun c0=>?_) (fun c0=>?_)
 ·have c0:=(oT (nT id) (nT id)) c0
  refine .seq<|.rs fun k4=>.g (fun _ τ=>⟨_,.build (.no Y) Y z36 Y p36 Y Y Y Y τ⟩)<|.g (fun _ τ=>⟨_,.store (.no Y) Y t36 Y Y Y Y Y Y Y Y Y τ⟩)<|.z<|.ret ?_
  have h9:=Val.parts (op_no (o:=o) (ok_no2 c0))
  have e5:(0)=(((opV o a b).iv).lo):=by with_reducible first | exact h9.1.1 | exact h9.1.2 | exact h9.2.1 | exact h9.2.2
  have e6:(0)=(((opV o a b).iv).hi):=by with_reducible first | exact h9.1.1 | exact h9.1.2 | exact h9.2.1 | exact h9.2.2
  have e7:(false)=((opV o a b).live):=by with_reducible first | exact h9.1.1 | exact h9.1.2 | exact h9.2.1 | exact h9.2.2
  have e8:(0)=((opV o a b).alarms):=by with_reducible first | exact h9.1.1 | exact h9.1.2 | exact h9.2.1 | exact h9.2.2
  have hc9:=eq4 (fun z1 z2 z3 z4=>some (k1+1+1,k4+1,O.box [.d (.v (.int .i64 (z1))),.d (.v (.int .i64 (z2))),.d (.v (.bool (z3))),.d (.v (.int .i64 (z4)))])) e5 e6 e7 e8
  exact fin0 (.inr Y) (.cell (cells:=[.d (.v (.int .i64 (((opV o a b).iv).lo))),.d (.v (.int .i64 (((opV o a b).iv).hi))),.d (.v (.bool ((opV o a b).live))),.d (.v (.int .i64 ((opV o a b).alarms)))]) Y hc9 t36 Y Y .nil) (.dd (.dd (.dd (.dd .nil)))) Y
 ·have c0:=(oF (nF id) (nF id)) c0
  refine .skip<|.seq<|.rs fun k10=>.mv Y<|.lda t34 Y (.ptr _ _ _ _ _ Y) Y<|.lda t34 Y (.ptr _ _ _ _ _ Y) Y<|.g (fun _ τ=>⟨_,.buildSlice (.no Y) Y (els:=[[.v (.int .i64 (b.lo)),.v (.int .i64 (b.hi))]]) t44 Y z34 Y Y Y Y Y Y Y Y (by simp [i34]) (.cons _ _ _ _ _ _ (.d _) (.cons _ _ _ _ _ _ (.d _) .nil)) Y Y Y τ⟩) ?_
  refine .g (fun _ τ=>⟨_,.call (.no Y) Y [[19]] [([19],(k10+1+1+1,k10+1+1+1,.row 34 2 ([[.v (.int .i64 (b.lo)),.v (.int .i64 (b.hi))]])))] (c_l2Box o a [b] (by first | assumption | omega | exact of_decide_eq_true c0.2 | exact fit_zero | exact ⟨by simp,fun x hx=>by rw [List.mem_singleton] at hx; subst hx; exact hb⟩) (by first | assumption | omega | exact of_decide_eq_true c0.2 | exact fit_zero | exact ⟨by simp,fun x hx=>by rw [List.mem_singleton] at hx; subst hx; exact hb⟩)) Y Y Y Y Y (.dd (.dd (.dd (.cons (Reads.ref (Frz.of_erase (erase_slo true 34 2 Iv.c Iv.c ([b]) Iv.c_e)) (.head _) (.head _)).gives .nil)))) Y Y (fun _=>(ownCons (Owned.v _) (ownCons (Owned.v _) (ownCons (Owned.v _) (ownCons (Owned.v _) ownNil))))) (.own [20,0] (.own [20,1] (.own [20,2] (.own [20,3] .nil)))) (.nil) Y Y Y (AllH.get (.r Y)) Y Y Y τ⟩) ?_
  refine .g (fun _ τ=>⟨_,.store (.no Y) Y t36 Y Y Y Y Y Y Y Y Y τ⟩)<|.z<|.ret ?_
  have h9:=Val.eqs (op_spec (o:=o) c0)
  have e11:(((valC ([b].flatMap (cornS o a))).iv).lo)=(((opV o a b).iv).lo):=by with_reducible first | exact h9.1.1 | exact h9.1.2 | exact h9.2.1 | exact h9.2.2
  have e12:(((valC ([b].flatMap (cornS o a))).iv).hi)=(((opV o a b).iv).hi):=by with_reducible first | exact h9.1.1 | exact h9.1.2 | exact h9.2.1 | exact h9.2.2
  have e13:((valC ([b].flatMap (cornS o a))).live)=((opV o a b).live):=by with_reducible first | exact h9.1.1 | exact h9.1.2 | exact h9.2.1 | exact h9.2.2
  have e14:((valC ([b].flatMap (cornS o a))).alarms)=((opV o a b).alarms):=by with_reducible first | exact h9.1.1 | exact h9.1.2 | exact h9.2.1 | exact h9.2.2
  have hc15:=eq4 (fun z1 z2 z3 z4=>some (k1+1+1,k10+1+1+1+1+1,O.box [.d (.v (.int .i64 (z1))),.d (.v (.int .i64 (z2))),.d (.v (.bool (z3))),.d (.v (.int .i64 (z4)))])) e11 e12 e13 e14
  exact fin0 (.inr Y) (.cell (cells:=[.d (.v (.int .i64 (((opV o a b).iv).lo))),.d (.v (.int .i64 (((opV o a b).iv).hi))),.d (.v (.bool ((opV o a b).live))),.d (.v (.int .i64 ((opV o a b).alarms)))]) Y hc15 t36 Y Y .nil) (.dd (.dd (.dd (.dd .nil)))) Y
theorem c_sIvAdd (a:Iv) (b:Iv) (ha:FitI a) (hb:FitI b):Trip Tryz.prog 96 [(true,2),(true,2)] (Iv.c a++Iv.c b) [(true,4)] [.v (.int .i64 (((opV 43 a b).iv).lo)),.v (.int .i64 (((opV 43 a b).iv).hi)),.v (.bool ((opV 43 a b).live)),.v (.int .i64 ((opV 43 a b).alarms))] []:=by
 refine Trip.of Tryz.func96 (by decide) (c:=_) Y Y (Nat.le_of_ble_eq_true Y) Y (AftOk.nil _)<|.seq<|.rs fun k1=>.g (fun _ τ=>⟨_,.box (.no Y) Y Y Y Y Y τ⟩)<|.g (fun _ τ=>⟨_,.box (.no Y) Y Y Y Y Y τ⟩)<|.g (fun _ τ=>⟨_,.alloc (.no Y) Y z36 Y Y Y τ⟩)<|.z<|.seq<|.rs fun k2=>?_
 refine .lda t34 Y (.ptr _ _ _ _ _ Y) Y<|.lda t34 Y (.ptr _ _ _ _ _ Y) Y<|.c0 (c_l2Op 43 a b (by assumption) (by assumption)) Y (.dd (.dd (.dd (.dd (.dd .nil))))) (.own [7,0] (.own [7,1] (.own [7,2] (.own [7,3] .nil)))) Y<|.g (fun _ τ=>⟨_,.store (.no Y) Y t36 Y Y Y Y Y Y Y Y Y τ⟩)<|.z<|.ret ?_
 exact fin0 (.inr Y) (.cell (cells:=[.d (.v (.int .i64 (((opV 43 a b).iv).lo))),.d (.v (.int .i64 (((opV 43 a b).iv).hi))),.d (.v (.bool ((opV 43 a b).live))),.d (.v (.int .i64 ((opV 43 a b).alarms)))]) Y Y t36 Y Y .nil) (.dd (.dd (.dd (.dd .nil)))) Y
theorem c_sIvSub (a:Iv) (b:Iv) (ha:FitI a) (hb:FitI b):Trip Tryz.prog 97 [(true,2),(true,2)] (Iv.c a++Iv.c b) [(true,4)] [.v (.int .i64 (((opV 45 a b).iv).lo)),.v (.int .i64 (((opV 45 a b).iv).hi)),.v (.bool ((opV 45 a b).live)),.v (.int .i64 ((opV 45 a b).alarms))] []:=by
 refine Trip.of Tryz.func97 (by decide) (c:=_) Y Y (Nat.le_of_ble_eq_true Y) Y (AftOk.nil _)<|.seq<|.rs fun k1=>.g (fun _ τ=>⟨_,.box (.no Y) Y Y Y Y Y τ⟩)<|.g (fun _ τ=>⟨_,.box (.no Y) Y Y Y Y Y τ⟩)<|.g (fun _ τ=>⟨_,.alloc (.no Y) Y z36 Y Y Y τ⟩)<|.z<|.seq<|.rs fun k2=>?_
 refine .lda t34 Y (.ptr _ _ _ _ _ Y) Y<|.lda t34 Y (.ptr _ _ _ _ _ Y) Y<|.c0 (c_l2Op 45 a b (by assumption) (by assumption)) Y (.dd (.dd (.dd (.dd (.dd .nil))))) (.own [7,0] (.own [7,1] (.own [7,2] (.own [7,3] .nil)))) Y<|.g (fun _ τ=>⟨_,.store (.no Y) Y t36 Y Y Y Y Y Y Y Y Y τ⟩)<|.z<|.ret ?_
 exact fin0 (.inr Y) (.cell (cells:=[.d (.v (.int .i64 (((opV 45 a b).iv).lo))),.d (.v (.int .i64 (((opV 45 a b).iv).hi))),.d (.v (.bool ((opV 45 a b).live))),.d (.v (.int .i64 ((opV 45 a b).alarms)))]) Y Y t36 Y Y .nil) (.dd (.dd (.dd (.dd .nil)))) Y
theorem c_sIvMul (a:Iv) (b:Iv) (ha:FitI a) (hb:FitI b):Trip Tryz.prog 98 [(true,2),(true,2)] (Iv.c a++Iv.c b) [(true,4)] [.v (.int .i64 (((opV 42 a b).iv).lo)),.v (.int .i64 (((opV 42 a b).iv).hi)),.v (.bool ((opV 42 a b).live)),.v (.int .i64 ((opV 42 a b).alarms))] []:=by
 refine Trip.of Tryz.func98 (by decide) (c:=_) Y Y (Nat.le_of_ble_eq_true Y) Y (AftOk.nil _)<|.seq<|.rs fun k1=>.g (fun _ τ=>⟨_,.box (.no Y) Y Y Y Y Y τ⟩)<|.g (fun _ τ=>⟨_,.box (.no Y) Y Y Y Y Y τ⟩)<|.g (fun _ τ=>⟨_,.alloc (.no Y) Y z36 Y Y Y τ⟩)<|.z<|.seq<|.rs fun k2=>?_
 refine .lda t34 Y (.ptr _ _ _ _ _ Y) Y<|.lda t34 Y (.ptr _ _ _ _ _ Y) Y<|.c0 (c_l2Op 42 a b (by assumption) (by assumption)) Y (.dd (.dd (.dd (.dd (.dd .nil))))) (.own [7,0] (.own [7,1] (.own [7,2] (.own [7,3] .nil)))) Y<|.g (fun _ τ=>⟨_,.store (.no Y) Y t36 Y Y Y Y Y Y Y Y Y τ⟩)<|.z<|.ret ?_
 exact fin0 (.inr Y) (.cell (cells:=[.d (.v (.int .i64 (((opV 42 a b).iv).lo))),.d (.v (.int .i64 (((opV 42 a b).iv).hi))),.d (.v (.bool ((opV 42 a b).live))),.d (.v (.int .i64 ((opV 42 a b).alarms)))]) Y Y t36 Y Y .nil) (.dd (.dd (.dd (.dd .nil)))) Y
theorem c_sIvNeg (a:Iv) (ha:FitI a):Trip Tryz.prog 65 [(true,2)] (Iv.c a) [(true,4)] [.v (.int .i64 (((opV 45 (Iv.mk 0 0) a).iv).lo)),.v (.int .i64 (((opV 45 (Iv.mk 0 0) a).iv).hi)),.v (.bool ((opV 45 (Iv.mk 0 0) a).live)),.v (.int .i64 ((opV 45 (Iv.mk 0 0) a).alarms))] []:=by
 refine Trip.of Tryz.func65 (by decide) (c:=_) Y Y (Nat.le_of_ble_eq_true Y) Y (AftOk.nil _)<|.seq<|.rs fun k1=>.g (fun _ τ=>⟨_,.box (.no Y) Y Y Y Y Y τ⟩)<|.g (fun _ τ=>⟨_,.alloc (.no Y) Y z36 Y Y Y τ⟩)<|.z<|.seq<|.rs fun k2=>.g (fun _ τ=>⟨_,.build (.no Y) Y z34 Y p34 Y Y Y Y τ⟩) ?_
 refine .lda t34 Y (.ptr _ _ _ _ _ Y) Y<|.c0 (c_sIvSub (Iv.mk 0 0) a (by first | assumption | omega | exact of_decide_eq_true c0.2 | exact fit_zero) (by first | assumption | omega | exact of_decide_eq_true c0.2 | exact fit_zero)) Y (.dd (.dd (.dd (.dd .nil)))) (.own [5,0] (.own [5,1] (.own [5,2] (.own [5,3] .nil)))) Y<|.g (fun _ τ=>⟨_,.store (.no Y) Y t36 Y Y Y Y Y Y Y Y Y τ⟩)<|.z<|.ret ?_
 exact fin0 (.inr Y) (.cell (cells:=[.d (.v (.int .i64 (((opV 45 (Iv.mk 0 0) a).iv).lo))),.d (.v (.int .i64 (((opV 45 (Iv.mk 0 0) a).iv).hi))),.d (.v (.bool ((opV 45 (Iv.mk 0 0) a).live))),.d (.v (.int .i64 ((opV 45 (Iv.mk 0 0) a).alarms)))]) Y Y t36 Y Y .nil) (.dd (.dd (.dd (.dd .nil)))) Y
theorem c_l2Parts (b:Iv):Trip Tryz.prog 137 [(true,2)] (Iv.c b) [(false,1)] [.sl true 34 2 (List.map Iv.c (partsV b))] []:=by
 refine Trip.of Tryz.func137 (by decide) (c:=_) Y Y (Nat.le_of_ble_eq_true Y) Y (AftOk.nil _)<|.seq<|.rs fun k1=>.g (fun _ τ=>⟨_,.box (.no Y) Y Y Y Y Y τ⟩)<|.as Y<|.z<|.seq<|.rs fun k2=>.g (fun _ τ=>⟨_,.buildSlice (.no Y) Y (els:=[]) t44 Y z34 Y Y Y Y Y Y Y Y (by simp [i34]) .nil Y Y Y τ⟩) ?_
 refine .as Y<|.z<|.seq<|.seq<|.rs fun k3=>.fp t34 t2 Y<|.ld t2 Y (.ptr _ _ _ _ _ Y) Y<|.bi Y<|.z ?_
 refine .cond (t:=decide (b.lo < 0)) Y (fun c0=>?_) (fun c0=>?_)
 ·have c0:=of_decide_eq_true c0
  refine .rs fun k4=>.mv Y<|.fp t34 t2 Y<|.ld t2 Y (.ptr _ _ _ _ _ Y) Y<|.fp t34 t2 Y<|.ld t2 Y (.ptr _ _ _ _ _ Y) Y<|.g (fun _ τ=>⟨_,.min (.no Y) Y Y Y Y (min_of _ _) Y τ⟩)<|.g (fun _ τ=>⟨_,.build (.no Y) Y z34 Y p34 Y Y Y Y τ⟩)<|.g (fun _ τ=>⟨_,.buildSlice (.no Y) Y (els:=[[.v (.int .i64 (b.lo)),.v (.int .i64 (min b.hi (-1)))]]) t44 Y z34 Y Y Y Y Y Y Y Y (by simp [i34]) (.cons _ _ _ _ _ _ (.d _) (.cons _ _ _ _ _ _ (.d _) .nil)) Y Y Y τ⟩) ?_
  refine .g (fun _ τ=>⟨_,.append (.no Y) Y (l3:=List.map Iv.c ([(Iv.mk b.lo (min b.hi (-1)))])) t44 Y z34 Y Y Y Y Y Y Y Y (.ref _ _ _ _ Y) (.take _ _ _ _ _ Y) Y (by (simp [i34]<;>omega)) (List.nil_append _) Y Y τ⟩)<|.as Y<|.z<|.seq<|.seq<|.rs fun k5=>.fp t34 t2 Y<|.ld t2 Y (.ptr _ _ _ _ _ Y) Y<|.bi Y ?_
  refine .z ?_
  refine .cond (t:=decide (b.hi > 0)) Y (fun c1=>?_) (fun c1=>?_)
  ·have c1:=of_decide_eq_true c1
   refine .rs fun k6=>.mv Y<|.fp t34 t2 Y<|.ld t2 Y (.ptr _ _ _ _ _ Y) Y<|.g (fun _ τ=>⟨_,.max (.no Y) Y Y Y Y (max_of _ _) Y τ⟩)<|.fp t34 t2 Y<|.ld t2 Y (.ptr _ _ _ _ _ Y) Y<|.g (fun _ τ=>⟨_,.build (.no Y) Y z34 Y p34 Y Y Y Y τ⟩)<|.g (fun _ τ=>⟨_,.buildSlice (.no Y) Y (els:=[[.v (.int .i64 (max b.lo 1)),.v (.int .i64 (b.hi))]]) t44 Y z34 Y Y Y Y Y Y Y Y (by simp [i34]) (.cons _ _ _ _ _ _ (.d _) (.cons _ _ _ _ _ _ (.d _) .nil)) Y Y Y τ⟩) ?_
   refine .g (fun _ τ=>⟨_,.append (.no Y) Y (l3:=List.map Iv.c ([(Iv.mk b.lo (min b.hi (-1)))]++[(Iv.mk (max b.lo 1) b.hi)])) t44 Y z34 Y Y Y Y Y Y Y Y (.ref _ _ _ _ Y) (.take _ _ _ _ _ Y) Y (by (simp [i34]<;>omega)) (map_snoc _ _ _) Y Y τ⟩)<|.as Y<|.z<|.seq<|.rs fun k7=>.mv Y<|.as Y<|.z<|.ret ?_
   have e8:([(Iv.mk b.lo (min b.hi (-1)))]++[(Iv.mk (max b.lo 1) b.hi)])=(partsV b):=by first | with_reducible exact parts_11 c0 c1 | exact parts_11 c0 c1
   exact fin1 (.inr Y) [] [([4],(k6+1+1+1+1+1+1+1+1,k6+1+1+1+1+1+1+1+1,.row 34 2 (List.map Iv.c (partsV b))))] (.one Y .nil) (.cons (.ref (.head _)) .nil) Y Y (.cons (rowE (congrArg (List.map Iv.c) e8)) .nil)
  ·have c1:=of_decide_eq_false c1
   refine .skip<|.seq<|.rs fun k9=>.mv Y<|.as Y<|.z<|.ret ?_
   have e10:([(Iv.mk b.lo (min b.hi (-1)))])=(partsV b):=by first | with_reducible exact parts_10 c0 c1 | exact parts_10 c0 c1
   exact fin1 (.inr Y) [] [([4],(k4+1+1+1+1+1+1+1+1,k4+1+1+1+1+1+1+1+1,.row 34 2 (List.map Iv.c (partsV b))))] (.one Y .nil) (.cons (.ref (.head _)) .nil) Y Y (.cons (rowE (congrArg (List.map Iv.c) e10)) .nil)
 ·have c0:=of_decide_eq_false c0
  refine .skip<|.seq<|.seq<|.rs fun k11=>.fp t34 t2 Y<|.ld t2 Y (.ptr _ _ _ _ _ Y) Y<|.bi Y<|.z ?_
  refine .cond (t:=decide (b.hi > 0)) Y (fun c1=>?_) (fun c1=>?_)
  ·have c1:=of_decide_eq_true c1
   refine .rs fun k12=>.mv Y<|.fp t34 t2 Y<|.ld t2 Y (.ptr _ _ _ _ _ Y) Y<|.g (fun _ τ=>⟨_,.max (.no Y) Y Y Y Y (max_of _ _) Y τ⟩)<|.fp t34 t2 Y<|.ld t2 Y (.ptr _ _ _ _ _ Y) Y<|.g (fun _ τ=>⟨_,.build (.no Y) Y z34 Y p34 Y Y Y Y τ⟩)<|.g (fun _ τ=>⟨_,.buildSlice (.no Y) Y (els:=[[.v (.int .i64 (max b.lo 1)),.v (.int .i64 (b.hi))]]) t44 Y z34 Y Y Y Y Y Y Y Y (by simp [i34]) (.cons _ _ _ _ _ _ (.d _) (.cons _ _ _ _ _ _ (.d _) .nil)) Y Y Y τ⟩) ?_
   refine .g (fun _ τ=>⟨_,.append (.no Y) Y (l3:=List.map Iv.c ([(Iv.mk (max b.lo 1) b.hi)])) t44 Y z34 Y Y Y Y Y Y Y Y (.ref _ _ _ _ Y) (.take _ _ _ _ _ Y) Y (by (simp [i34]<;>omega)) (List.nil_append _) Y Y τ⟩)<|.as Y<|.z<|.seq<|.rs fun k13=>.mv Y<|.as Y<|.z<|.ret ?_
   have e14:([(Iv.mk (max b.lo 1) b.hi)])=(partsV b):=by first | with_reducible exact parts_01 c0 c1 | exact parts_01 c0 c1
   exact fin1 (.inr Y) [] [([4],(k12+1+1+1+1+1+1+1+1,k12+1+1+1+1+1+1+1+1,.row 34 2 (List.map Iv.c (partsV b))))] (.one Y .nil) (.cons (.ref (.head _)) .nil) Y Y (.cons (rowE (congrArg (List.map Iv.c) e14)) .nil)
  ·have c1:=of_decide_eq_false c1
   refine .skip<|.seq<|.rs fun k15=>.mv Y<|.as Y<|.z<|.ret ?_
   have e16:([])=(partsV b):=by first | with_reducible exact parts_00 c0 c1 | exact parts_00 c0 c1
   exact fin1 (.inr Y) [] [([4],(k2,k2,.row 34 2 (List.map Iv.c (partsV b))))] (.one Y .nil) (.cons (.ref (.head _)) .nil) Y Y (.cons (rowE (show []=List.map Iv.c (partsV b) by rw [← e16]; rfl)) .nil)
end Go.Proofs

namespace Go.Proofs
open Go Go.Proofs Go.Ev

theorem c_sIvQuo (a:Iv) (b:Iv) (ha:FitI a) (hb:FitI b):Trip Tryz.prog 99 [(true,2),(true,2)] (Iv.c a++Iv.c b) [(true,4)] [.v (.int .i64 (((quoV a b).iv).lo)),.v (.int .i64 (((quoV a b).iv).hi)),.v (.bool ((quoV a b).live)),.v (.int .i64 ((quoV a b).alarms))] []:=by
 refine Trip.of Tryz.func99 (by decide) (c:=_) Y Y (Nat.le_of_ble_eq_true Y) Y (AftOk.nil _)<|.seq<|.rs fun k1=>.g (fun _ τ=>⟨_,.box (.no Y) Y Y Y Y Y τ⟩)<|.g (fun _ τ=>⟨_,.box (.no Y) Y Y Y Y Y τ⟩)<|.g (fun _ τ=>⟨_,.alloc (.no Y) Y z36 Y Y Y τ⟩)<|.z<|.seq<|.seq ?_
 refine .reg (X:=Unit) (fun ζ=>.of [(2,.one (.ptr [2] (k1) 0)),(3,.one (.ptr [3] (k1+1) 0)),(4,.one (.ptr [4] (k1+1+1) 0)),(13,.one (.d (.v (.bool ((!(Iv.ok a)||!(Iv.ok b)))))))] [([2],(k1,k1,.box [.d (.v (.int .i64 (a.lo))),.d (.v (.int .i64 (a.hi)))])),([3],(k1+1,k1+1,.box [.d (.v (.int .i64 (b.lo))),.d (.v (.int .i64 (b.hi)))])),([4],(k1+1+1,k1+1+1,.box [.d (.v (.int .i64 (0))),.d (.v (.int .i64 (0))),.d (.v (.bool (false))),.d (.v (.int .i64 (0)))]))]) [⟨[2],some 6,[[2]],[]⟩,⟨[6],some 7,[],[]⟩,⟨[7],some 8,[],[]⟩,⟨[8],some 9,[],[]⟩,⟨[9,3],some 10,[[3]],[]⟩,⟨[9,10],some 11,[],[]⟩,⟨[9,11],some 12,[],[]⟩,⟨[9,12],some 13,[],[]⟩] (fun k2=>?_) ?_
 ·skip
  refine .load (.no Y) Y t34 Y Y (.ptr _ _ _ _ _ Y) Y Y Y Y<|.call (.no Y) Y [] [] (c_sIvOk a) Y Y Y Y Y (.dd (.dd .nil)) Y Y (fun h=>absurd Y h) (.own [7,0] .nil) (.nil) Y Y Y (by simp) Y Y Y<|.un (.no Y) Y Y Y Y Y<|.moveB (.no Y) Y Y Y Y fun b3 g1_3=>?_
  cases b3
  ·skip
   refine .load (.on Y Y Y Y Y) Y t34 Y Y (.ptr _ _ _ _ _ Y) Y Y Y Y<|.call (.on Y Y Y Y Y) Y [] [] (c_sIvOk b) Y Y Y Y Y (.dd (.dd .nil)) Y Y (fun h=>absurd Y h) (.own [11,0] .nil) (.nil) Y Y Y (by simp) Y Y Y<|.un (.on Y Y Y Y Y) Y Y Y Y Y<|.pick (.no Y) Y Y Y Y Y ?_
   exact .fin () (.of (.cons Y (.cons Y (.cons Y (.cons (svB (show (!(Iv.ok b))=((!(Iv.ok a)||!(Iv.ok b))) by first | (simp only [g1_3,Bool.true_or,Bool.false_or,Bool.true_and,Bool.false_and,Bool.not_true,Bool.not_false]; done) | (simp [g1_3]; done) | (exfalso; simp_all; done))) .nil)))) (.r Y))
  ·skip
   refine .off Y Y Y Y Y Y Y<|.off Y Y Y Y Y Y Y<|.off Y Y Y Y Y Y Y<|.pick (.no Y) Y Y Y Y Y ?_
   exact .fin () (.of (.cons Y (.cons Y (.cons Y (.cons (svB (show (true)=((!(Iv.ok a)||!(Iv.ok b))) by first | (simp only [g1_3,Bool.true_or,Bool.false_or,Bool.true_and,Bool.false_and,Bool.not_true,Bool.not_false]; done) | (simp [g1_3]; done) | (exfalso; simp_all; done))) .nil)))) (.r Y))
 intro _
 refine .cond (t:=(!(Iv.ok a)||!(Iv.ok b))) Y (fun c0=>?_) (fun c0=>?_)
 ·have c0:=(oT (nT id) (nT id)) c0
  refine .seq<|.rs fun k4=>.g (fun _ τ=>⟨_,.build (.no Y) Y z36 Y p36 Y Y Y Y τ⟩)<|.g (fun _ τ=>⟨_,.store (.no Y) Y t36 Y Y Y Y Y Y Y Y Y τ⟩)<|.z<|.ret ?_
  have h9:=Val.parts (quo_no (ok_no2 c0))
  have e5:(0)=(((quoV a b).iv).lo):=by with_reducible first | exact h9.1.1 | exact h9.1.2 | exact h9.2.1 | exact h9.2.2
  have e6:(0)=(((quoV a b).iv).hi):=by with_reducible first | exact h9.1.1 | exact h9.1.2 | exact h9.2.1 | exact h9.2.2
  have e7:(false)=((quoV a b).live):=by with_reducible first | exact h9.1.1 | exact h9.1.2 | exact h9.2.1 | exact h9.2.2
  have e8:(0)=((quoV a b).alarms):=by with_reducible first | exact h9.1.1 | exact h9.1.2 | exact h9.2.1 | exact h9.2.2
  have hc9:=eq4 (fun z1 z2 z3 z4=>some (k1+1+1,k4+1,O.box [.d (.v (.int .i64 (z1))),.d (.v (.int .i64 (z2))),.d (.v (.bool (z3))),.d (.v (.int .i64 (z4)))])) e5 e6 e7 e8
  exact fin0 (.inr Y) (.cell (cells:=[.d (.v (.int .i64 (((quoV a b).iv).lo))),.d (.v (.int .i64 (((quoV a b).iv).hi))),.d (.v (.bool ((quoV a b).live))),.d (.v (.int .i64 ((quoV a b).alarms)))]) Y hc9 t36 Y Y .nil) (.dd (.dd (.dd (.dd .nil)))) Y
 ·have c0:=(oF (nF id) (nF id)) c0
  refine .skip<|.seq ?_
  refine .regD (X:=Nat × Nat) (by kernel_rfl) (fun ζ=>.of [(3,.one (.ptr [3] (k1+1) 0)),(4,.one (.ptr [4] (k1+1+1) 0)),(5,.one (.ptr [5] (ζ.1) 0))] [([3],(k1+1,k1+1,.box [.d (.v (.int .i64 (b.lo))),.d (.v (.int .i64 (b.hi)))])),([4],(k1+1+1,k1+1+1,.box [.d (.v (.int .i64 (0))),.d (.v (.int .i64 (0))),.d (.v (.bool (false))),.d (.v (.int .i64 (0)))])),([5],(ζ.1,ζ.2,.box [.d (.v (.int .i64 (((valC ((partsV b).flatMap (cornS 47 a))).iv).lo))),.d (.v (.int .i64 (((valC ((partsV b).flatMap (cornS 47 a))).iv).hi))),.d (.v (.bool ((valC ((partsV b).flatMap (cornS 47 a))).live))),.d (.v (.int .i64 ((valC ((partsV b).flatMap (cornS 47 a))).alarms)))]))]) [⟨[2],some 15,[[2]],[]⟩,⟨[3],some 16,[[3]],[]⟩,⟨[16],some 17,[],[]⟩,⟨[15,17],some 18,[],[]⟩,⟨[],some 5,[],[[5]]⟩,⟨[5,18],none,[[5]],[[5]]⟩] (by kernel_rfl) (fun k10=>?_) ?_
  ·skip
   refine .load (.no Y) Y t34 Y Y (.ptr _ _ _ _ _ Y) Y Y Y Y<|.load (.no Y) Y t34 Y Y (.ptr _ _ _ _ _ Y) Y Y Y Y<|.call (.no Y) Y [] [] (c_l2Parts b) Y Y Y Y Y (.dd (.dd .nil)) Y Y (fun h=>absurd Y h) (.frz [17,0] (Frz.of_erase (erase_slo _ _ _ _ _ _ Iv.c_e)) .nil) (.nil) Y Y Y (by simp) Y Y Y<|.call (.no Y) Y [] [] (c_l2Box 47 a (partsV b) (by first | assumption | omega | exact of_decide_eq_true c0.2 | exact fit_zero | exact ⟨parts_len,parts_fit hb⟩) (by first | assumption | omega | exact of_decide_eq_true c0.2 | exact fit_zero | exact ⟨parts_len,parts_fit hb⟩)) Y Y Y Y Y (.dd (.dd (.dd (.dd .nil)))) Y Y (fun h=>absurd Y h) (.own [18,0] (.own [18,1] (.own [18,2] (.own [18,3] .nil)))) (.nil) Y Y Y (by simp) Y Y Y<|.alloc (.no Y) Y z36 Y Y Y ?_
   refine .store (.no Y) Y t36 Y Y Y Y Y Y Y Y Y ?_
   exact .fin (k10+1+1+1+1,k10+1+1+1+1+1) (.of (.r Y) (.r Y))
  rintro ⟨g11,g12⟩
  refine .seq<|.seq<|.rs fun k13=>.lda t34 Y (.ptr _ _ _ _ _ Y) Y<|.c0 (c_sIvHas b 0) Y (.dd (.dd (.dd .nil))) (.own [20,0] .nil) Y<|.z ?_
  refine .cond (t:=Iv.has b 0) Y (fun c1=>?_) (fun c1=>?_)
  ·have c1:=c1
   refine .rs fun k14=>.fp t36 t2 Y<|.ld t2 Y (.ptr _ _ _ _ _ Y) Y<|.bi Y<|.fp t36 t2 Y<|.g (fun _ τ=>⟨_,.store (.no Y) Y t2 Y Y Y Y Y Y Y Y Y τ⟩)<|.z<|.seq<|.rs fun k15=>?_
   refine .lda t36 Y (.ptr _ _ _ _ _ Y) Y<|.g (fun _ τ=>⟨_,.store (.no Y) Y t36 Y Y Y Y Y Y Y Y Y τ⟩)<|.z<|.ret ?_
   have h9:=Val.parts (quo_1 c0 c1)
   have e16:(((valC ((partsV b).flatMap (cornS 47 a))).iv).lo)=(((quoV a b).iv).lo):=by with_reducible first | exact h9.1.1 | exact h9.1.2 | exact h9.2.1 | exact h9.2.2
   have e17:(((valC ((partsV b).flatMap (cornS 47 a))).iv).hi)=(((quoV a b).iv).hi):=by with_reducible first | exact h9.1.1 | exact h9.1.2 | exact h9.2.1 | exact h9.2.2
   have e18:((valC ((partsV b).flatMap (cornS 47 a))).live)=((quoV a b).live):=by with_reducible first | exact h9.1.1 | exact h9.1.2 | exact h9.2.1 | exact h9.2.2
   have e19:(IntKind.wrap .i64 ((BitVec.ofInt (IntKind.bits .i64) ((valC ((partsV b).flatMap (cornS 47 a))).alarms) ||| BitVec.ofInt (IntKind.bits .i64) 1).toNat:Int))=((quoV a b).alarms):=by with_reducible first | exact h9.1.1 | exact h9.1.2 | exact h9.2.1 | exact h9.2.2
   have hc20:=eq4 (fun z1 z2 z3 z4=>some (k1+1+1,k15+1,O.box [.d (.v (.int .i64 (z1))),.d (.v (.int .i64 (z2))),.d (.v (.bool (z3))),.d (.v (.int .i64 (z4)))])) e16 e17 e18 e19
   exact fin0 (.inr Y) (.cell (cells:=[.d (.v (.int .i64 (((quoV a b).iv).lo))),.d (.v (.int .i64 (((quoV a b).iv).hi))),.d (.v (.bool ((quoV a b).live))),.d (.v (.int .i64 ((quoV a b).alarms)))]) Y hc20 t36 Y Y .nil) (.dd (.dd (.dd (.dd .nil)))) Y
  ·have c1:=c1
   refine .skip<|.seq<|.rs fun k21=>.lda t36 Y (.ptr _ _ _ _ _ Y) Y<|.g (fun _ τ=>⟨_,.store (.no Y) Y t36 Y Y Y Y Y Y Y Y Y τ⟩)<|.z<|.ret ?_
   have h9:=Val.eqs (quo_0 c0 c1)
   have e22:(((valC ((partsV b).flatMap (cornS 47 a))).iv).lo)=(((quoV a b).iv).lo):=by with_reducible first | exact h9.1.1 | exact h9.1.2 | exact h9.2.1 | exact h9.2.2
   have e23:(((valC ((partsV b).flatMap (cornS 47 a))).iv).hi)=(((quoV a b).iv).hi):=by with_reducible first | exact h9.1.1 | exact h9.1.2 | exact h9.2.1 | exact h9.2.2
   have e24:((valC ((partsV b).flatMap (cornS 47 a))).live)=((quoV a b).live):=by with_reducible first | exact h9.1.1 | exact h9.1.2 | exact h9.2.1 | exact h9.2.2
   have e25:((valC ((partsV b).flatMap (cornS 47 a))).alarms)=((quoV a b).alarms):=by with_reducible first | exact h9.1.1 | exact h9.1.2 | exact h9.2.1 | exact h9.2.2
   have hc26:=eq4 (fun z1 z2 z3 z4=>some (k1+1+1,k21+1,O.box [.d (.v (.int .i64 (z1))),.d (.v (.int .i64 (z2))),.d (.v (.bool (z3))),.d (.v (.int .i64 (z4)))])) e22 e23 e24 e25
   exact fin0 (.inr Y) (.cell (cells:=[.d (.v (.int .i64 (((quoV a b).iv).lo))),.d (.v (.int .i64 (((quoV a b).iv).hi))),.d (.v (.bool ((quoV a b).live))),.d (.v (.int .i64 ((quoV a b).alarms)))]) Y hc26 t36 Y Y .nil) (.dd (.dd (.dd (.dd .nil)))) Y
set_option maxHeartbeats 4000000 in
theorem c_sIvRem (a:Iv) (b:Iv) (ha:FitI a) (hb:FitI b):Trip Tryz.prog 100 [(true,2),(true,2)] (Iv.c a++Iv.c b) [(true,4)] [.v (.int .i64 (((remV a b).iv).lo)),.v (.int .i64 (((remV a b).iv).hi)),.v (.bool ((remV a b).live)),.v (.int .i64 ((remV a b).alarms))] []:=by
 refine Trip.of Tryz.func100 (by decide) (c:=_) Y Y (Nat.le_of_ble_eq_true Y) Y (AftOk.nil _)<|.seq<|.rs fun k1=>.g (fun _ τ=>⟨_,.box (.no Y) Y Y Y Y Y τ⟩)<|.g (fun _ τ=>⟨_,.box (.no Y) Y Y Y Y Y τ⟩)<|.g (fun _ τ=>⟨_,.alloc (.no Y) Y z36 Y Y Y τ⟩)<|.z<|.seq<|.seq ?_
 refine .reg (X:=Unit) (fun ζ=>.of [(2,.one (.ptr [2] (k1) 0)),(3,.one (.ptr [3] (k1+1) 0)),(4,.one (.ptr [4] (k1+1+1) 0)),(15,.one (.d (.v (.bool ((!(Iv.ok a)||!(Iv.ok b)))))))] [([2],(k1,k1,.box [.d (.v (.int .i64 (a.lo))),.d (.v (.int .i64 (a.hi)))])),([3],(k1+1,k1+1,.box [.d (.v (.int .i64 (b.lo))),.d (.v (.int .i64 (b.hi)))])),([4],(k1+1+1,k1+1+1,.box [.d (.v (.int .i64 (0))),.d (.v (.int .i64 (0))),.d (.v (.bool (false))),.d (.v (.int .i64 (0)))]))]) [⟨[2],some 8,[[2]],[]⟩,⟨[8],some 9,[],[]⟩,⟨[9],some 10,[],[]⟩,⟨[10],some 11,[],[]⟩,⟨[11,3],some 12,[[3]],[]⟩,⟨[11,12],some 13,[],[]⟩,⟨[11,13],some 14,[],[]⟩,⟨[11,14],some 15,[],[]⟩] (fun k2=>?_) ?_
 ·skip
  refine .load (.no Y) Y t34 Y Y (.ptr _ _ _ _ _ Y) Y Y Y Y<|.call (.no Y) Y [] [] (c_sIvOk a) Y Y Y Y Y (.dd (.dd .nil)) Y Y (fun h=>absurd Y h) (.own [9,0] .nil) (.nil) Y Y Y (by simp) Y Y Y<|.un (.no Y) Y Y Y Y Y<|.moveB (.no Y) Y Y Y Y fun b3 g1_3=>?_
  cases b3
  ·skip
   refine .load (.on Y Y Y Y Y) Y t34 Y Y (.ptr _ _ _ _ _ Y) Y Y Y Y<|.call (.on Y Y Y Y Y) Y [] [] (c_sIvOk b) Y Y Y Y Y (.dd (.dd .nil)) Y Y (fun h=>absurd Y h) (.own [13,0] .nil) (.nil) Y Y Y (by simp) Y Y Y<|.un (.on Y Y Y Y Y) Y Y Y Y Y<|.pick (.no Y) Y Y Y Y Y ?_
   exact .fin () (.of (.cons Y (.cons Y (.cons Y (.cons (svB (show (!(Iv.ok b))=((!(Iv.ok a)||!(Iv.ok b))) by first | (simp only [g1_3,Bool.true_or,Bool.false_or,Bool.true_and,Bool.false_and,Bool.not_true,Bool.not_false]; done) | (simp [g1_3]; done) | (exfalso; simp_all; done))) .nil)))) (.r Y))
  ·skip
   refine .off Y Y Y Y Y Y Y<|.off Y Y Y Y Y Y Y<|.off Y Y Y Y Y Y Y<|.pick (.no Y) Y Y Y Y Y ?_
   exact .fin () (.of (.cons Y (.cons Y (.cons Y (.cons (svB (show (true)=((!(Iv.ok a)||!(Iv.ok b))) by first | (simp only [g1_3,Bool.true_or,Bool.false_or,Bool.true_and,Bool.false_and,Bool.not_true,Bool.not_false]; done) | (simp [g1_3]; done) | (exfalso; simp_all; done))) .nil)))) (.r Y))
 intro _
 refine .cond (t:=(!(Iv.ok a)||!(Iv.ok b))) Y (fun c0=>?_) (fun c0=>?_)
 ·have c0:=(oT (nT id) (nT id)) c0
  refine .seq<|.rs fun k4=>.g (fun _ τ=>⟨_,.build (.no Y) Y z36 Y p36 Y Y Y Y τ⟩)<|.g (fun _ τ=>⟨_,.store (.no Y) Y t36 Y Y Y Y Y Y Y Y Y τ⟩)<|.z<|.ret ?_
  have h9:=Val.parts (rem_no9 (ok_no2 c0))
  have e5:(0)=(((remV a b).iv).lo):=by with_reducible first | exact h9.1.1 | exact h9.1.2 | exact h9.2.1 | exact h9.2.2
  have e6:(0)=(((remV a b).iv).hi):=by with_reducible first | exact h9.1.1 | exact h9.1.2 | exact h9.2.1 | exact h9.2.2
  have e7:(false)=((remV a b).live):=by with_reducible first | exact h9.1.1 | exact h9.1.2 | exact h9.2.1 | exact h9.2.2
  have e8:(0)=((remV a b).alarms):=by with_reducible first | exact h9.1.1 | exact h9.1.2 | exact h9.2.1 | exact h9.2.2
  have hc9:=eq4 (fun z1 z2 z3 z4=>some (k1+1+1,k4+1,O.box [.d (.v (.int .i64 (z1))),.d (.v (.int .i64 (z2))),.d (.v (.bool (z3))),.d (.v (.int .i64 (z4)))])) e5 e6 e7 e8
  exact fin0 (.inr Y) (.cell (cells:=[.d (.v (.int .i64 (((remV a b).iv).lo))),.d (.v (.int .i64 (((remV a b).iv).hi))),.d (.v (.bool ((remV a b).live))),.d (.v (.int .i64 ((remV a b).alarms)))]) Y hc9 t36 Y Y .nil) (.dd (.dd (.dd (.dd .nil)))) Y
 ·have c0:=(oF (nF id) (nF id)) c0
  refine .skip<|.seq<|.rs fun k10=>.g (fun _ τ=>⟨_,.build (.no Y) Y z36 Y p36 Y Y Y Y τ⟩)<|.g (fun _ τ=>⟨_,.alloc (.no Y) Y z36 Y Y Y τ⟩)<|.g (fun _ τ=>⟨_,.store (.no Y) Y t36 Y Y Y Y Y Y Y Y Y τ⟩)<|.z<|.seq<|.seq ?_
  refine .rs fun k11=>.lda t34 Y (.ptr _ _ _ _ _ Y) Y<|.c0 (c_sIvHas b 0) Y (.dd (.dd (.dd .nil))) (.own [19,0] .nil) Y<|.z ?_
  refine .cond (t:=Iv.has b 0) Y (fun c1=>?_) (fun c1=>?_)
  ·have c1:=c1
   refine .rs fun k12=>.fp t36 t2 Y<|.g (fun _ τ=>⟨_,.store (.no Y) Y t2 Y Y Y Y Y Y Y Y Y τ⟩)<|.z<|.seq<|.seq<|.rs fun k13=>.lda t34 Y (.ptr _ _ _ _ _ Y) Y<|.c0 (c_l2Parts b) Y (.dd (.dd .nil)) (.frz [22,0] (Frz.of_erase (erase_slo _ _ _ _ _ _ Iv.c_e)) .nil) Y ?_
   refine .g (fun _ τ=>⟨_,.len (.no Y) Y (z:=((partsV b).length:Int)) t44 Y Y Y (.d _ _) (map_len _ _) Y τ⟩)<|.bi Y<|.z ?_
   refine .cond (t:=((partsV b).length:Int) == 0) Y (fun c2=>?_) (fun c2=>?_)
   ·have c2:=(by simpa using c2:((partsV b).length:Int)=0)
    refine .seq<|.rs fun k14=>.lda t36 Y (.ptr _ _ _ _ _ Y) Y<|.g (fun _ τ=>⟨_,.store (.no Y) Y t36 Y Y Y Y Y Y Y Y Y τ⟩)<|.z<|.ret ?_
    have h9:=Val.parts (rem_noneA c0 c2 (by first | exact div_1 c1 | exact div_0 c1))
    have e15:(0)=(((remV a b).iv).lo):=by with_reducible first | exact h9.1.1 | exact h9.1.2 | exact h9.2.1 | exact h9.2.2
    have e16:(0)=(((remV a b).iv).hi):=by with_reducible first | exact h9.1.1 | exact h9.1.2 | exact h9.2.1 | exact h9.2.2
    have e17:(false)=((remV a b).live):=by with_reducible first | exact h9.1.1 | exact h9.1.2 | exact h9.2.1 | exact h9.2.2
    have e18:(1)=((remV a b).alarms):=by with_reducible first | exact h9.1.1 | exact h9.1.2 | exact h9.2.1 | exact h9.2.2
    have hc19:=eq4 (fun z1 z2 z3 z4=>some (k1+1+1,k14+1,O.box [.d (.v (.int .i64 (z1))),.d (.v (.int .i64 (z2))),.d (.v (.bool (z3))),.d (.v (.int .i64 (z4)))])) e15 e16 e17 e18
    exact fin0 (.inr Y) (.cell (cells:=[.d (.v (.int .i64 (((remV a b).iv).lo))),.d (.v (.int .i64 (((remV a b).iv).hi))),.d (.v (.bool ((remV a b).live))),.d (.v (.int .i64 ((remV a b).alarms)))]) Y hc19 t36 Y Y .nil) (.dd (.dd (.dd (.dd .nil)))) Y
   ·have c2:=(by simpa using c2:¬ (((partsV b).length:Int)=0))
    refine .skip<|.seq<|.rs fun k20=>.fp t36 t4 Y<|.g (fun _ τ=>⟨_,.store (.no Y) Y t4 Y Y Y Y Y Y Y Y Y τ⟩)<|.z<|.seq<|.seq ?_
    refine .reg (X:=Unit) (fun ζ=>.of [(2,.one (.ptr [2] (k1) 0)),(3,.one (.ptr [3] (k1+1) 0)),(4,.one (.ptr [4] (k1+1+1) 0)),(5,.one (.ptr [5] (k10+1) 0)),(38,.one (.d (.v (.bool ((a.lo == a.hi&&b.lo == b.hi))))))] [([2],(k1,k1,.box [.d (.v (.int .i64 (a.lo))),.d (.v (.int .i64 (a.hi)))])),([3],(k1+1,k1+1,.box [.d (.v (.int .i64 (b.lo))),.d (.v (.int .i64 (b.hi)))])),([4],(k1+1+1,k1+1+1,.box [.d (.v (.int .i64 (0))),.d (.v (.int .i64 (0))),.d (.v (.bool (false))),.d (.v (.int .i64 (0)))])),([5],(k10+1,k20+1,.box [.d (.v (.int .i64 (0))),.d (.v (.int .i64 (0))),.d (.v (.bool (true))),.d (.v (.int .i64 (1)))]))]) [⟨[2],some 27,[],[]⟩,⟨[27],some 28,[[2]],[]⟩,⟨[2],some 29,[],[]⟩,⟨[29],some 30,[[2]],[]⟩,⟨[28,30],some 31,[],[]⟩,⟨[31],some 32,[],[]⟩,⟨[32,3],some 33,[],[]⟩,⟨[32,33],some 34,[[3]],[]⟩,⟨[32,3],some 35,[],[]⟩,⟨[32,35],some 36,[[3]],[]⟩,⟨[32,34,36],some 37,[],[]⟩,⟨[32,37],some 38,[],[]⟩] (fun k21=>?_) ?_
    ·skip
     refine .fieldAddrP (.no Y) Y t34 Y Y t2 Y Y Y Y<|.load (.no Y) Y t2 Y Y (.ptr _ _ _ _ _ Y) Y Y Y Y<|.fieldAddrP (.no Y) Y t34 Y Y t2 Y Y Y Y<|.load (.no Y) Y t2 Y Y (.ptr _ _ _ _ _ Y) Y Y Y Y<|.bin (.no Y) Y Y Y Y Y Y<|.moveB (.no Y) Y Y Y Y fun b22 g9_5=>?_
     cases b22
     ·skip
      refine .off Y Y Y Y Y Y Y<|.off Y Y Y Y Y Y Y<|.off Y Y Y Y Y Y Y<|.off Y Y Y Y Y Y Y<|.off Y Y Y Y Y Y Y<|.pick (.no Y) Y Y Y Y Y ?_
      exact .fin () (.of (.cons Y (.cons Y (.cons Y (.cons Y (.cons (svB (show (false)=((a.lo == a.hi&&b.lo == b.hi)) by first | (simp only [g9_5,Bool.true_or,Bool.false_or,Bool.true_and,Bool.false_and,Bool.not_true,Bool.not_false]; done) | (simp [g9_5]; done) | (exfalso; simp_all; done))) .nil))))) (.r Y))
     ·skip
      refine .fieldAddrP (.on Y Y Y Y Y) Y t34 Y Y t2 Y Y Y Y<|.load (.on Y Y Y Y Y) Y t2 Y Y (.ptr _ _ _ _ _ Y) Y Y Y Y<|.fieldAddrP (.on Y Y Y Y Y) Y t34 Y Y t2 Y Y Y Y<|.load (.on Y Y Y Y Y) Y t2 Y Y (.ptr _ _ _ _ _ Y) Y Y Y Y<|.bin (.on Y Y Y Y Y) Y Y Y Y Y Y<|.pick (.no Y) Y Y Y Y Y ?_
      exact .fin () (.of (.cons Y (.cons Y (.cons Y (.cons Y (.cons (svB (show (b.lo == b.hi)=((a.lo == a.hi&&b.lo == b.hi)) by first | (simp only [g9_5,Bool.true_or,Bool.false_or,Bool.true_and,Bool.false_and,Bool.not_true,Bool.not_false]; done) | (simp [g9_5]; done) | (exfalso; simp_all; done))) .nil))))) (.r Y))
    intro _
    refine .cond (t:=(a.lo == a.hi&&b.lo == b.hi)) Y (fun c3=>?_) (fun c3=>?_)
    ·have c3:=(aT eT eT) c3
     refine .seq<|.rs fun k23=>.fp t34 t2 Y<|.ld t2 Y (.ptr _ _ _ _ _ Y) Y<|.fp t34 t2 Y<|.ld t2 Y (.ptr _ _ _ _ _ Y) Y<|.c0 (c_sNumRem a.lo b.lo) Y (.dd (.dd .nil)) (.own [43,0] .nil) Y<|.as Y<|.z ?_
     refine .seq<|.rs fun k24=>.mv Y<|.mv Y<|.g (fun _ τ=>⟨_,.build (.no Y) Y z34 Y p34 Y Y Y Y τ⟩)<|.fp t36 t34 Y<|.g (fun _ τ=>⟨_,.store (.no Y) Y t34 Y Y Y Y Y Y Y Y Y τ⟩)<|.z<|.seq ?_
     refine .rs fun k25=>.lda t36 Y (.ptr _ _ _ _ _ Y) Y<|.g (fun _ τ=>⟨_,.store (.no Y) Y t36 Y Y Y Y Y Y Y Y Y τ⟩)<|.z<|.ret ?_
     have h9:=Val.parts (rem_oneA c0 c2 c3 (by first | exact div_1 c1 | exact div_0 c1))
     have e26:(remN a.lo b.lo)=(((remV a b).iv).lo):=by with_reducible first | exact h9.1.1 | exact h9.1.2 | exact h9.2.1 | exact h9.2.2
     have e27:(remN a.lo b.lo)=(((remV a b).iv).hi):=by with_reducible first | exact h9.1.1 | exact h9.1.2 | exact h9.2.1 | exact h9.2.2
     have e28:(true)=((remV a b).live):=by with_reducible first | exact h9.1.1 | exact h9.1.2 | exact h9.2.1 | exact h9.2.2
     have e29:(1)=((remV a b).alarms):=by with_reducible first | exact h9.1.1 | exact h9.1.2 | exact h9.2.1 | exact h9.2.2
     have hc30:=eq4 (fun z1 z2 z3 z4=>some (k1+1+1,k25+1,O.box [.d (.v (.int .i64 (z1))),.d (.v (.int .i64 (z2))),.d (.v (.bool (z3))),.d (.v (.int .i64 (z4)))])) e26 e27 e28 e29
     exact fin0 (.inr Y) (.cell (cells:=[.d (.v (.int .i64 (((remV a b).iv).lo))),.d (.v (.int .i64 (((remV a b).iv).hi))),.d (.v (.bool ((remV a b).live))),.d (.v (.int .i64 ((remV a b).alarms)))]) Y hc30 t36 Y Y .nil) (.dd (.dd (.dd (.dd .nil)))) Y
    ·have c3:=(aF eF eF) c3
     refine .skip<|.seq ?_
     refine .regD (X:=Unit) (by kernel_rfl) (fun ζ=>.of [(2,.one (.ptr [2] (k1) 0)),(4,.one (.ptr [4] (k1+1+1) 0)),(5,.one (.ptr [5] (k10+1) 0)),(7,.one (.d (.v (.int .i64 (IntKind.wrap .i64 (IntKind.wrap .u64 ((max (absN b.lo) (absN b.hi)) - 1)))))))] [([2],(k1,k1,.box [.d (.v (.int .i64 (a.lo))),.d (.v (.int .i64 (a.hi)))])),([4],(k1+1+1,k1+1+1,.box [.d (.v (.int .i64 (0))),.d (.v (.int .i64 (0))),.d (.v (.bool (false))),.d (.v (.int .i64 (0)))])),([5],(k10+1,k20+1,.box [.d (.v (.int .i64 (0))),.d (.v (.int .i64 (0))),.d (.v (.bool (true))),.d (.v (.int .i64 (1)))]))]) [⟨[3],some 49,[],[]⟩,⟨[49],some 50,[[3]],[]⟩,⟨[50],some 51,[],[]⟩,⟨[3],some 52,[],[]⟩,⟨[52],some 53,[[3]],[]⟩,⟨[53],some 54,[],[]⟩,⟨[51,54],some 55,[],[]⟩,⟨[55],some 56,[],[]⟩,⟨[56],some 57,[],[]⟩,⟨[57],some 7,[],[]⟩] (by kernel_rfl) (fun k31=>?_) ?_
     ·skip
      refine .fieldAddrP (.no Y) Y t34 Y Y t2 Y Y Y Y<|.load (.no Y) Y t2 Y Y (.ptr _ _ _ _ _ Y) Y Y Y Y<|.call (.no Y) Y [] [] (c_l1Abs b.lo (by first | assumption | omega | exact of_decide_eq_true c0.2 | exact fit_zero | exact ha.1 | exact ha.2 | exact hb.1 | exact hb.2)) Y Y Y Y Y (.dd .nil) Y Y (fun h=>absurd Y h) (.own [51,0] .nil) (.nil) Y Y Y (by simp) Y Y Y<|.fieldAddrP (.no Y) Y t34 Y Y t2 Y Y Y Y<|.load (.no Y) Y t2 Y Y (.ptr _ _ _ _ _ Y) Y Y Y Y<|.call (.no Y) Y [] [] (c_l1Abs b.hi (by first | assumption | omega | exact of_decide_eq_true c0.2 | exact fit_zero | exact ha.1 | exact ha.2 | exact hb.1 | exact hb.2)) Y Y Y Y Y (.dd .nil) Y Y (fun h=>absurd Y h) (.own [54,0] .nil) (.nil) Y Y Y (by simp) Y Y Y ?_
      refine .max (.no Y) Y Y Y Y (max_of _ _) Y<|.bin (.no Y) Y Y Y Y Y Y<|.conv (.no Y) Y t144 t2 Y Y Y Y Y Y<|.assign (.no Y) Y Y Y Y ?_
      exact .fin () (.of (.r Y) (.r Y))
     intro _
     refine .seq<|.seq<|.rs fun k32=>.fp t34 t2 Y<|.ld t2 Y (.ptr _ _ _ _ _ Y) Y<|.bi Y<|.z ?_
     refine .cond (t:=decide (a.lo < 0)) Y (fun c4=>?_) (fun c4=>?_)
     ·have c4:=of_decide_eq_true c4
      refine .rs fun k33=>.mv Y<|.un Y<|.fp t34 t2 Y<|.ld t2 Y (.ptr _ _ _ _ _ Y) Y<|.g (fun _ τ=>⟨_,.max (.no Y) Y Y Y Y (max_of _ _) Y τ⟩)<|.fp t36 t34 Y<|.fp t34 t2 Y<|.g (fun _ τ=>⟨_,.store (.no Y) Y t2 Y Y Y Y Y Y Y Y Y τ⟩) ?_
      refine .z<|.seq<|.seq<|.rs fun k34=>.fp t34 t2 Y<|.ld t2 Y (.ptr _ _ _ _ _ Y) Y<|.bi Y<|.z ?_
      refine .cond (t:=decide (a.hi > 0)) Y (fun c5=>?_) (fun c5=>?_)
      ·have c5:=of_decide_eq_true c5
       refine .rs fun k35=>.mv Y<|.fp t34 t2 Y<|.ld t2 Y (.ptr _ _ _ _ _ Y) Y<|.g (fun _ τ=>⟨_,.min (.no Y) Y Y Y Y (min_of _ _) Y τ⟩)<|.fp t36 t34 Y<|.fp t34 t2 Y<|.g (fun _ τ=>⟨_,.store (.no Y) Y t2 Y Y Y Y Y Y Y Y Y τ⟩)<|.z ?_
       refine .seq<|.rs fun k36=>.lda t36 Y (.ptr _ _ _ _ _ Y) Y<|.g (fun _ τ=>⟨_,.store (.no Y) Y t36 Y Y Y Y Y Y Y Y Y τ⟩)<|.z<|.ret ?_
       have h9:=Val.parts (rem_twoA c0 c2 c3 (by first | exact div_1 c1 | exact div_0 c1) (by first | exact (if_pos c4).symm | exact (if_neg c4).symm) (by first | exact (if_pos c5).symm | exact (if_neg c5).symm))
       have e37:(max (IntKind.wrap .i64 (0 - (IntKind.wrap .i64 (IntKind.wrap .u64 ((max (absN b.lo) (absN b.hi)) - 1))))) a.lo)=(((remV a b).iv).lo):=by with_reducible first | exact h9.1.1 | exact h9.1.2 | exact h9.2.1 | exact h9.2.2
       have e38:(min (IntKind.wrap .i64 (IntKind.wrap .u64 ((max (absN b.lo) (absN b.hi)) - 1))) a.hi)=(((remV a b).iv).hi):=by with_reducible first | exact h9.1.1 | exact h9.1.2 | exact h9.2.1 | exact h9.2.2
       have e39:(true)=((remV a b).live):=by with_reducible first | exact h9.1.1 | exact h9.1.2 | exact h9.2.1 | exact h9.2.2
       have e40:(1)=((remV a b).alarms):=by with_reducible first | exact h9.1.1 | exact h9.1.2 | exact h9.2.1 | exact h9.2.2
       have hc41:=eq4 (fun z1 z2 z3 z4=>some (k1+1+1,k36+1,O.box [.d (.v (.int .i64 (z1))),.d (.v (.int .i64 (z2))),.d (.v (.bool (z3))),.d (.v (.int .i64 (z4)))])) e37 e38 e39 e40
       exact fin0 (.inr Y) (.cell (cells:=[.d (.v (.int .i64 (((remV a b).iv).lo))),.d (.v (.int .i64 (((remV a b).iv).hi))),.d (.v (.bool ((remV a b).live))),.d (.v (.int .i64 ((remV a b).alarms)))]) Y hc41 t36 Y Y .nil) (.dd (.dd (.dd (.dd .nil)))) Y
      ·have c5:=of_decide_eq_false c5
       refine .skip<|.seq<|.rs fun k42=>.lda t36 Y (.ptr _ _ _ _ _ Y) Y<|.g (fun _ τ=>⟨_,.store (.no Y) Y t36 Y Y Y Y Y Y Y Y Y τ⟩)<|.z<|.ret ?_
       have h9:=Val.parts (rem_twoA c0 c2 c3 (by first | exact div_1 c1 | exact div_0 c1) (by first | exact (if_pos c4).symm | exact (if_neg c4).symm) (by first | exact (if_pos c5).symm | exact (if_neg c5).symm))
       have e43:(max (IntKind.wrap .i64 (0 - (IntKind.wrap .i64 (IntKind.wrap .u64 ((max (absN b.lo) (absN b.hi)) - 1))))) a.lo)=(((remV a b).iv).lo):=by with_reducible first | exact h9.1.1 | exact h9.1.2 | exact h9.2.1 | exact h9.2.2
       have e44:(0)=(((remV a b).iv).hi):=by with_reducible first | exact h9.1.1 | exact h9.1.2 | exact h9.2.1 | exact h9.2.2
       have e45:(true)=((remV a b).live):=by with_reducible first | exact h9.1.1 | exact h9.1.2 | exact h9.2.1 | exact h9.2.2
       have e46:(1)=((remV a b).alarms):=by with_reducible first | exact h9.1.1 | exact h9.1.2 | exact h9.2.1 | exact h9.2.2
       have hc47:=eq4 (fun z1 z2 z3 z4=>some (k1+1+1,k42+1,O.box [.d (.v (.int .i64 (z1))),.d (.v (.int .i64 (z2))),.d (.v (.bool (z3))),.d (.v (.int .i64 (z4)))])) e43 e44 e45 e46
       exact fin0 (.inr Y) (.cell (cells:=[.d (.v (.int .i64 (((remV a b).iv).lo))),.d (.v (.int .i64 (((remV a b).iv).hi))),.d (.v (.bool ((remV a b).live))),.d (.v (.int .i64 ((remV a b).alarms)))]) Y hc47 t36 Y Y .nil) (.dd (.dd (.dd (.dd .nil)))) Y
     ·have c4:=of_decide_eq_false c4
      refine .skip<|.seq<|.seq<|.rs fun k48=>.fp t34 t2 Y<|.ld t2 Y (.ptr _ _ _ _ _ Y) Y<|.bi Y<|.z ?_
      refine .cond (t:=decide (a.hi > 0)) Y (fun c5=>?_) (fun c5=>?_)
      ·have c5:=of_decide_eq_true c5
       refine .rs fun k49=>.mv Y<|.fp t34 t2 Y<|.ld t2 Y (.ptr _ _ _ _ _ Y) Y<|.g (fun _ τ=>⟨_,.min (.no Y) Y Y Y Y (min_of _ _) Y τ⟩)<|.fp t36 t34 Y<|.fp t34 t2 Y<|.g (fun _ τ=>⟨_,.store (.no Y) Y t2 Y Y Y Y Y Y Y Y Y τ⟩)<|.z ?_
       refine .seq<|.rs fun k50=>.lda t36 Y (.ptr _ _ _ _ _ Y) Y<|.g (fun _ τ=>⟨_,.store (.no Y) Y t36 Y Y Y Y Y Y Y Y Y τ⟩)<|.z<|.ret ?_
       have h9:=Val.parts (rem_twoA c0 c2 c3 (by first | exact div_1 c1 | exact div_0 c1) (by first | exact (if_pos c4).symm | exact (if_neg c4).symm) (by first | exact (if_pos c5).symm | exact (if_neg c5).symm))
       have e51:(0)=(((remV a b).iv).lo):=by with_reducible first | exact h9.1.1 | exact h9.1.2 | exact h9.2.1 | exact h9.2.2
       have e52:(min (IntKind.wrap .i64 (IntKind.wrap .u64 ((max (absN b.lo) (absN b.hi)) - 1))) a.hi)=(((remV a b).iv).hi):=by with_reducible first | exact h9.1.1 | exact h9.1.2 | exact h9.2.1 | exact h9.2.2
       have e53:(true)=((remV a b).live):=by with_reducible first | exact h9.1.1 | exact h9.1.2 | exact h9.2.1 | exact h9.2.2
       have e54:(1)=((remV a b).alarms):=by with_reducible first | exact h9.1.1 | exact h9.1.2 | exact h9.2.1 | exact h9.2.2
       have hc55:=eq4 (fun z1 z2 z3 z4=>some (k1+1+1,k50+1,O.box [.d (.v (.int .i64 (z1))),.d (.v (.int .i64 (z2))),.d (.v (.bool (z3))),.d (.v (.int .i64 (z4)))])) e51 e52 e53 e54
       exact fin0 (.inr Y) (.cell (cells:=[.d (.v (.int .i64 (((remV a b).iv).lo))),.d (.v (.int .i64 (((remV a b).iv).hi))),.d (.v (.bool ((remV a b).live))),.d (.v (.int .i64 ((remV a b).alarms)))]) Y hc55 t36 Y Y .nil) (.dd (.dd (.dd (.dd .nil)))) Y
      ·have c5:=of_decide_eq_false c5
       refine .skip<|.seq<|.rs fun k56=>.lda t36 Y (.ptr _ _ _ _ _ Y) Y<|.g (fun _ τ=>⟨_,.store (.no Y) Y t36 Y Y Y Y Y Y Y Y Y τ⟩)<|.z<|.ret ?_
       have h9:=Val.parts (rem_twoA c0 c2 c3 (by first | exact div_1 c1 | exact div_0 c1) (by first | exact (if_pos c4).symm | exact (if_neg c4).symm) (by first | exact (if_pos c5).symm | exact (if_neg c5).symm))
       have e57:(0)=(((remV a b).iv).lo):=by with_reducible first | exact h9.1.1 | exact h9.1.2 | exact h9.2.1 | exact h9.2.2
       have e58:(0)=(((remV a b).iv).hi):=by with_reducible first | exact h9.1.1 | exact h9.1.2 | exact h9.2.1 | exact h9.2.2
       have e59:(true)=((remV a b).live):=by with_reducible first | exact h9.1.1 | exact h9.1.2 | exact h9.2.1 | exact h9.2.2
       have e60:(1)=((remV a b).alarms):=by with_reducible first | exact h9.1.1 | exact h9.1.2 | exact h9.2.1 | exact h9.2.2
       have hc61:=eq4 (fun z1 z2 z3 z4=>some (k1+1+1,k56+1,O.box [.d (.v (.int .i64 (z1))),.d (.v (.int .i64 (z2))),.d (.v (.bool (z3))),.d (.v (.int .i64 (z4)))])) e57 e58 e59 e60
       exact fin0 (.inr Y) (.cell (cells:=[.d (.v (.int .i64 (((remV a b).iv).lo))),.d (.v (.int .i64 (((remV a b).iv).hi))),.d (.v (.bool ((remV a b).live))),.d (.v (.int .i64 ((remV a b).alarms)))]) Y hc61 t36 Y Y .nil) (.dd (.dd (.dd (.dd .nil)))) Y
  ·have c1:=c1
   refine .skip<|.seq<|.seq<|.rs fun k62=>.lda t34 Y (.ptr _ _ _ _ _ Y) Y<|.c0 (c_l2Parts b) Y (.dd (.dd .nil)) (.frz [22,0] (Frz.of_erase (erase_slo _ _ _ _ _ _ Iv.c_e)) .nil) Y<|.g (fun _ τ=>⟨_,.len (.no Y) Y (z:=((partsV b).length:Int)) t44 Y Y Y (.d _ _) (map_len _ _) Y τ⟩)<|.bi Y<|.z ?_
   refine .cond (t:=((partsV b).length:Int) == 0) Y (fun c2=>?_) (fun c2=>?_)
   ·have c2:=(by simpa using c2:((partsV b).length:Int)=0)
    refine .seq<|.rs fun k63=>.lda t36 Y (.ptr _ _ _ _ _ Y) Y<|.g (fun _ τ=>⟨_,.store (.no Y) Y t36 Y Y Y Y Y Y Y Y Y τ⟩)<|.z<|.ret ?_
    have h9:=Val.parts (rem_noneA c0 c2 (by first | exact div_1 c1 | exact div_0 c1))
    have e64:(0)=(((remV a b).iv).lo):=by with_reducible first | exact h9.1.1 | exact h9.1.2 | exact h9.2.1 | exact h9.2.2
    have e65:(0)=(((remV a b).iv).hi):=by with_reducible first | exact h9.1.1 | exact h9.1.2 | exact h9.2.1 | exact h9.2.2
    have e66:(false)=((remV a b).live):=by with_reducible first | exact h9.1.1 | exact h9.1.2 | exact h9.2.1 | exact h9.2.2
    have e67:(0)=((remV a b).alarms):=by with_reducible first | exact h9.1.1 | exact h9.1.2 | exact h9.2.1 | exact h9.2.2
    have hc68:=eq4 (fun z1 z2 z3 z4=>some (k1+1+1,k63+1,O.box [.d (.v (.int .i64 (z1))),.d (.v (.int .i64 (z2))),.d (.v (.bool (z3))),.d (.v (.int .i64 (z4)))])) e64 e65 e66 e67
    exact fin0 (.inr Y) (.cell (cells:=[.d (.v (.int .i64 (((remV a b).iv).lo))),.d (.v (.int .i64 (((remV a b).iv).hi))),.d (.v (.bool ((remV a b).live))),.d (.v (.int .i64 ((remV a b).alarms)))]) Y hc68 t36 Y Y .nil) (.dd (.dd (.dd (.dd .nil)))) Y
   ·have c2:=(by simpa using c2:¬ (((partsV b).length:Int)=0))
    refine .skip<|.seq<|.rs fun k69=>.fp t36 t4 Y<|.g (fun _ τ=>⟨_,.store (.no Y) Y t4 Y Y Y Y Y Y Y Y Y τ⟩)<|.z<|.seq<|.seq ?_
    refine .reg (X:=Unit) (fun ζ=>.of [(2,.one (.ptr [2] (k1) 0)),(3,.one (.ptr [3] (k1+1) 0)),(4,.one (.ptr [4] (k1+1+1) 0)),(5,.one (.ptr [5] (k10+1) 0)),(38,.one (.d (.v (.bool ((a.lo == a.hi&&b.lo == b.hi))))))] [([2],(k1,k1,.box [.d (.v (.int .i64 (a.lo))),.d (.v (.int .i64 (a.hi)))])),([3],(k1+1,k1+1,.box [.d (.v (.int .i64 (b.lo))),.d (.v (.int .i64 (b.hi)))])),([4],(k1+1+1,k1+1+1,.box [.d (.v (.int .i64 (0))),.d (.v (.int .i64 (0))),.d (.v (.bool (false))),.d (.v (.int .i64 (0)))])),([5],(k10+1,k69+1,.box [.d (.v (.int .i64 (0))),.d (.v (.int .i64 (0))),.d (.v (.bool (true))),.d (.v (.int .i64 (0)))]))]) [⟨[2],some 27,[],[]⟩,⟨[27],some 28,[[2]],[]⟩,⟨[2],some 29,[],[]⟩,⟨[29],some 30,[[2]],[]⟩,⟨[28,30],some 31,[],[]⟩,⟨[31],some 32,[],[]⟩,⟨[32,3],some 33,[],[]⟩,⟨[32,33],some 34,[[3]],[]⟩,⟨[32,3],some 35,[],[]⟩,⟨[32,35],some 36,[[3]],[]⟩,⟨[32,34,36],some 37,[],[]⟩,⟨[32,37],some 38,[],[]⟩] (fun k70=>?_) ?_
    ·skip
     refine .fieldAddrP (.no Y) Y t34 Y Y t2 Y Y Y Y<|.load (.no Y) Y t2 Y Y (.ptr _ _ _ _ _ Y) Y Y Y Y<|.fieldAddrP (.no Y) Y t34 Y Y t2 Y Y Y Y<|.load (.no Y) Y t2 Y Y (.ptr _ _ _ _ _ Y) Y Y Y Y<|.bin (.no Y) Y Y Y Y Y Y<|.moveB (.no Y) Y Y Y Y fun b71 g9_5=>?_
     cases b71
     ·skip
      refine .off Y Y Y Y Y Y Y<|.off Y Y Y Y Y Y Y<|.off Y Y Y Y Y Y Y<|.off Y Y Y Y Y Y Y<|.off Y Y Y Y Y Y Y<|.pick (.no Y) Y Y Y Y Y ?_
      exact .fin () (.of (.cons Y (.cons Y (.cons Y (.cons Y (.cons (svB (show (false)=((a.lo == a.hi&&b.lo == b.hi)) by first | (simp only [g9_5,Bool.true_or,Bool.false_or,Bool.true_and,Bool.false_and,Bool.not_true,Bool.not_false]; done) | (simp [g9_5]; done) | (exfalso; simp_all; done))) .nil))))) (.r Y))
     ·skip
      refine .fieldAddrP (.on Y Y Y Y Y) Y t34 Y Y t2 Y Y Y Y<|.load (.on Y Y Y Y Y) Y t2 Y Y (.ptr _ _ _ _ _ Y) Y Y Y Y<|.fieldAddrP (.on Y Y Y Y Y) Y t34 Y Y t2 Y Y Y Y<|.load (.on Y Y Y Y Y) Y t2 Y Y (.ptr _ _ _ _ _ Y) Y Y Y Y<|.bin (.on Y Y Y Y Y) Y Y Y Y Y Y<|.pick (.no Y) Y Y Y Y Y ?_
      exact .fin () (.of (.cons Y (.cons Y (.cons Y (.cons Y (.cons (svB (show (b.lo == b.hi)=((a.lo == a.hi&&b.lo == b.hi)) by first | (simp only [g9_5,Bool.true_or,Bool.false_or,Bool.true_and,Bool.false_and,Bool.not_true,Bool.not_false]; done) | (simp [g9_5]; done) | (exfalso; simp_all; done))) .nil))))) (.r Y))
    intro _
    refine .cond (t:=(a.lo == a.hi&&b.lo == b.hi)) Y (fun c3=>?_) (fun c3=>?_)
    ·have c3:=(aT eT eT) c3
     refine .seq<|.rs fun k72=>.fp t34 t2 Y<|.ld t2 Y (.ptr _ _ _ _ _ Y) Y<|.fp t34 t2 Y<|.ld t2 Y (.ptr _ _ _ _ _ Y) Y<|.c0 (c_sNumRem a.lo b.lo) Y (.dd (.dd .nil)) (.own [43,0] .nil) Y<|.as Y<|.z ?_
     refine .seq<|.rs fun k73=>.mv Y<|.mv Y<|.g (fun _ τ=>⟨_,.build (.no Y) Y z34 Y p34 Y Y Y Y τ⟩)<|.fp t36 t34 Y<|.g (fun _ τ=>⟨_,.store (.no Y) Y t34 Y Y Y Y Y Y Y Y Y τ⟩)<|.z<|.seq ?_
     refine .rs fun k74=>.lda t36 Y (.ptr _ _ _ _ _ Y) Y<|.g (fun _ τ=>⟨_,.store (.no Y) Y t36 Y Y Y Y Y Y Y Y Y τ⟩)<|.z<|.ret ?_
     have h9:=Val.parts (rem_oneA c0 c2 c3 (by first | exact div_1 c1 | exact div_0 c1))
     have e75:(remN a.lo b.lo)=(((remV a b).iv).lo):=by with_reducible first | exact h9.1.1 | exact h9.1.2 | exact h9.2.1 | exact h9.2.2
     have e76:(remN a.lo b.lo)=(((remV a b).iv).hi):=by with_reducible first | exact h9.1.1 | exact h9.1.2 | exact h9.2.1 | exact h9.2.2
     have e77:(true)=((remV a b).live):=by with_reducible first | exact h9.1.1 | exact h9.1.2 | exact h9.2.1 | exact h9.2.2
     have e78:(0)=((remV a b).alarms):=by with_reducible first | exact h9.1.1 | exact h9.1.2 | exact h9.2.1 | exact h9.2.2
     have hc79:=eq4 (fun z1 z2 z3 z4=>some (k1+1+1,k74+1,O.box [.d (.v (.int .i64 (z1))),.d (.v (.int .i64 (z2))),.d (.v (.bool (z3))),.d (.v (.int .i64 (z4)))])) e75 e76 e77 e78
     exact fin0 (.inr Y) (.cell (cells:=[.d (.v (.int .i64 (((remV a b).iv).lo))),.d (.v (.int .i64 (((remV a b).iv).hi))),.d (.v (.bool ((remV a b).live))),.d (.v (.int .i64 ((remV a b).alarms)))]) Y hc79 t36 Y Y .nil) (.dd (.dd (.dd (.dd .nil)))) Y
    ·have c3:=(aF eF eF) c3
     refine .skip<|.seq ?_
     refine .regD (X:=Unit) (by kernel_rfl) (fun ζ=>.of [(2,.one (.ptr [2] (k1) 0)),(4,.one (.ptr [4] (k1+1+1) 0)),(5,.one (.ptr [5] (k10+1) 0)),(7,.one (.d (.v (.int .i64 (IntKind.wrap .i64 (IntKind.wrap .u64 ((max (absN b.lo) (absN b.hi)) - 1)))))))] [([2],(k1,k1,.box [.d (.v (.int .i64 (a.lo))),.d (.v (.int .i64 (a.hi)))])),([4],(k1+1+1,k1+1+1,.box [.d (.v (.int .i64 (0))),.d (.v (.int .i64 (0))),.d (.v (.bool (false))),.d (.v (.int .i64 (0)))])),([5],(k10+1,k69+1,.box [.d (.v (.int .i64 (0))),.d (.v (.int .i64 (0))),.d (.v (.bool (true))),.d (.v (.int .i64 (0)))]))]) [⟨[3],some 49,[],[]⟩,⟨[49],some 50,[[3]],[]⟩,⟨[50],some 51,[],[]⟩,⟨[3],some 52,[],[]⟩,⟨[52],some 53,[[3]],[]⟩,⟨[53],some 54,[],[]⟩,⟨[51,54],some 55,[],[]⟩,⟨[55],some 56,[],[]⟩,⟨[56],some 57,[],[]⟩,⟨[57],some 7,[],[]⟩] (by kernel_rfl) (fun k80=>?_) ?_
     ·skip
      refine .fieldAddrP (.no Y) Y t34 Y Y t2 Y Y Y Y<|.load (.no Y) Y t2 Y Y (.ptr _ _ _ _ _ Y) Y Y Y Y<|.call (.no Y) Y [] [] (c_l1Abs b.lo (by first | assumption | omega | exact of_decide_eq_true c0.2 | exact fit_zero | exact ha.1 | exact ha.2 | exact hb.1 | exact hb.2)) Y Y Y Y Y (.dd .nil) Y Y (fun h=>absurd Y h) (.own [51,0] .nil) (.nil) Y Y Y (by simp) Y Y Y<|.fieldAddrP (.no Y) Y t34 Y Y t2 Y Y Y Y<|.load (.no Y) Y t2 Y Y (.ptr _ _ _ _ _ Y) Y Y Y Y<|.call (.no Y) Y [] [] (c_l1Abs b.hi (by first | assumption | omega | exact of_decide_eq_true c0.2 | exact fit_zero | exact ha.1 | exact ha.2 | exact hb.1 | exact hb.2)) Y Y Y Y Y (.dd .nil) Y Y (fun h=>absurd Y h) (.own [54,0] .nil) (.nil) Y Y Y (by simp) Y Y Y ?_
      refine .max (.no Y) Y Y Y Y (max_of _ _) Y<|.bin (.no Y) Y Y Y Y Y Y<|.conv (.no Y) Y t144 t2 Y Y Y Y Y Y<|.assign (.no Y) Y Y Y Y ?_
      exact .fin () (.of (.r Y) (.r Y))
     intro _
     refine .seq<|.seq<|.rs fun k81=>.fp t34 t2 Y<|.ld t2 Y (.ptr _ _ _ _ _ Y) Y<|.bi Y<|.z ?_
     refine .cond (t:=decide (a.lo < 0)) Y (fun c4=>?_) (fun c4=>?_)
     ·have c4:=of_decide_eq_true c4
      refine .rs fun k82=>.mv Y<|.un Y<|.fp t34 t2 Y<|.ld t2 Y (.ptr _ _ _ _ _ Y) Y<|.g (fun _ τ=>⟨_,.max (.no Y) Y Y Y Y (max_of _ _) Y τ⟩)<|.fp t36 t34 Y<|.fp t34 t2 Y<|.g (fun _ τ=>⟨_,.store (.no Y) Y t2 Y Y Y Y Y Y Y Y Y τ⟩) ?_
      refine .z<|.seq<|.seq<|.rs fun k83=>.fp t34 t2 Y<|.ld t2 Y (.ptr _ _ _ _ _ Y) Y<|.bi Y<|.z ?_
      refine .cond (t:=decide (a.hi > 0)) Y (fun c5=>?_) (fun c5=>?_)
      ·have c5:=of_decide_eq_true c5
       refine .rs fun k84=>.mv Y<|.fp t34 t2 Y<|.ld t2 Y (.ptr _ _ _ _ _ Y) Y<|.g (fun _ τ=>⟨_,.min (.no Y) Y Y Y Y (min_of _ _) Y τ⟩)<|.fp t36 t34 Y<|.fp t34 t2 Y<|.g (fun _ τ=>⟨_,.store (.no Y) Y t2 Y Y Y Y Y Y Y Y Y τ⟩)<|.z ?_
       refine .seq<|.rs fun k85=>.lda t36 Y (.ptr _ _ _ _ _ Y) Y<|.g (fun _ τ=>⟨_,.store (.no Y) Y t36 Y Y Y Y Y Y Y Y Y τ⟩)<|.z<|.ret ?_
       have h9:=Val.parts (rem_twoA c0 c2 c3 (by first | exact div_1 c1 | exact div_0 c1) (by first | exact (if_pos c4).symm | exact (if_neg c4).symm) (by first | exact (if_pos c5).symm | exact (if_neg c5).symm))
       have e86:(max (IntKind.wrap .i64 (0 - (IntKind.wrap .i64 (IntKind.wrap .u64 ((max (absN b.lo) (absN b.hi)) - 1))))) a.lo)=(((remV a b).iv).lo):=by with_reducible first | exact h9.1.1 | exact h9.1.2 | exact h9.2.1 | exact h9.2.2
       have e87:(min (IntKind.wrap .i64 (IntKind.wrap .u64 ((max (absN b.lo) (absN b.hi)) - 1))) a.hi)=(((remV a b).iv).hi):=by with_reducible first | exact h9.1.1 | exact h9.1.2 | exact h9.2.1 | exact h9.2.2
       have e88:(true)=((remV a b).live):=by with_reducible first | exact h9.1.1 | exact h9.1.2 | exact h9.2.1 | exact h9.2.2
       have e89:(0)=((remV a b).alarms):=by with_reducible first | exact h9.1.1 | exact h9.1.2 | exact h9.2.1 | exact h9.2.2
       have hc90:=eq4 (fun z1 z2 z3 z4=>some (k1+1+1,k85+1,O.box [.d (.v (.int .i64 (z1))),.d (.v (.int .i64 (z2))),.d (.v (.bool (z3))),.d (.v (.int .i64 (z4)))])) e86 e87 e88 e89
       exact fin0 (.inr Y) (.cell (cells:=[.d (.v (.int .i64 (((remV a b).iv).lo))),.d (.v (.int .i64 (((remV a b).iv).hi))),.d (.v (.bool ((remV a b).live))),.d (.v (.int .i64 ((remV a b).alarms)))]) Y hc90 t36 Y Y .nil) (.dd (.dd (.dd (.dd .nil)))) Y
      ·have c5:=of_decide_eq_false c5
       refine .skip<|.seq<|.rs fun k91=>.lda t36 Y (.ptr _ _ _ _ _ Y) Y<|.g (fun _ τ=>⟨_,.store (.no Y) Y t36 Y Y Y Y Y Y Y Y Y τ⟩)<|.z<|.ret ?_
       have h9:=Val.parts (rem_twoA c0 c2 c3 (by first | exact div_1 c1 | exact div_0 c1) (by first | exact (if_pos c4).symm | exact (if_neg c4).symm) (by first | exact (if_pos c5).symm | exact (if_neg c5).symm))
       have e92:(max (IntKind.wrap .i64 (0 - (IntKind.wrap .i64 (IntKind.wrap .u64 ((max (absN b.lo) (absN b.hi)) - 1))))) a.lo)=(((remV a b).iv).lo):=by with_reducible first | exact h9.1.1 | exact h9.1.2 | exact h9.2.1 | exact h9.2.2
       have e93:(0)=(((remV a b).iv).hi):=by with_reducible first | exact h9.1.1 | exact h9.1.2 | exact h9.2.1 | exact h9.2.2
       have e94:(true)=((remV a b).live):=by with_reducible first | exact h9.1.1 | exact h9.1.2 | exact h9.2.1 | exact h9.2.2
       have e95:(0)=((remV a b).alarms):=by with_reducible first | exact h9.1.1 | exact h9.1.2 | exact h9.2.1 | exact h9.2.2
       have hc96:=eq4 (fun z1 z2 z3 z4=>some (k1+1+1,k91+1,O.box [.d (.v (.int .i64 (z1))),.d (.v (.int .i64 (z2))),.d (.v (.bool (z3))),.d (.v (.int .i64 (z4)))])) e92 e93 e94 e95
       exact fin0 (.inr Y) (.cell (cells:=[.d (.v (.int .i64 (((remV a b).iv).lo))),.d (.v (.int .i64 (((remV a b).iv).hi))),.d (.v (.bool ((remV a b).live))),.d (.v (.int .i64 ((remV a b).alarms)))]) Y hc96 t36 Y Y .nil) (.dd (.dd (.dd (.dd .nil)))) Y
     ·have c4:=of_decide_eq_false c4
      refine .skip<|.seq<|.seq<|.rs fun k97=>.fp t34 t2 Y<|.ld t2 Y (.ptr _ _ _ _ _ Y) Y<|.bi Y<|.z ?_
      refine .cond (t:=decide (a.hi > 0)) Y (fun c5=>?_) (fun c5=>?_)
      ·have c5:=of_decide_eq_true c5
       refine .rs fun k98=>.mv Y<|.fp t34 t2 Y<|.ld t2 Y (.ptr _ _ _ _ _ Y) Y<|.g (fun _ τ=>⟨_,.min (.no Y) Y Y Y Y (min_of _ _) Y τ⟩)<|.fp t36 t34 Y<|.fp t34 t2 Y<|.g (fun _ τ=>⟨_,.store (.no Y) Y t2 Y Y Y Y Y Y Y Y Y τ⟩)<|.z ?_
       refine .seq<|.rs fun k99=>.lda t36 Y (.ptr _ _ _ _ _ Y) Y<|.g (fun _ τ=>⟨_,.store (.no Y) Y t36 Y Y Y Y Y Y Y Y Y τ⟩)<|.z<|.ret ?_
       have h9:=Val.parts (rem_twoA c0 c2 c3 (by first | exact div_1 c1 | exact div_0 c1) (by first | exact (if_pos c4).symm | exact (if_neg c4).symm) (by first | exact (if_pos c5).symm | exact (if_neg c5).symm))
       have e100:(0)=(((remV a b).iv).lo):=by with_reducible first | exact h9.1.1 | exact h9.1.2 | exact h9.2.1 | exact h9.2.2
       have e101:(min (IntKind.wrap .i64 (IntKind.wrap .u64 ((max (absN b.lo) (absN b.hi)) - 1))) a.hi)=(((remV a b).iv).hi):=by with_reducible first | exact h9.1.1 | exact h9.1.2 | exact h9.2.1 | exact h9.2.2
       have e102:(true)=((remV a b).live):=by with_reducible first | exact h9.1.1 | exact h9.1.2 | exact h9.2.1 | exact h9.2.2
       have e103:(0)=((remV a b).alarms):=by with_reducible first | exact h9.1.1 | exact h9.1.2 | exact h9.2.1 | exact h9.2.2
       have hc104:=eq4 (fun z1 z2 z3 z4=>some (k1+1+1,k99+1,O.box [.d (.v (.int .i64 (z1))),.d (.v (.int .i64 (z2))),.d (.v (.bool (z3))),.d (.v (.int .i64 (z4)))])) e100 e101 e102 e103
       exact fin0 (.inr Y) (.cell (cells:=[.d (.v (.int .i64 (((remV a b).iv).lo))),.d (.v (.int .i64 (((remV a b).iv).hi))),.d (.v (.bool ((remV a b).live))),.d (.v (.int .i64 ((remV a b).alarms)))]) Y hc104 t36 Y Y .nil) (.dd (.dd (.dd (.dd .nil)))) Y
      ·have c5:=of_decide_eq_false c5
       refine .skip<|.seq<|.rs fun k105=>.lda t36 Y (.ptr _ _ _ _ _ Y) Y<|.g (fun _ τ=>⟨_,.store (.no Y) Y t36 Y Y Y Y Y Y Y Y Y τ⟩)<|.z<|.ret ?_
       have h9:=Val.parts (rem_twoA c0 c2 c3 (by first | exact div_1 c1 | exact div_0 c1) (by first | exact (if_pos c4).symm | exact (if_neg c4).symm) (by first | exact (if_pos c5).symm | exact (if_neg c5).symm))
       have e106:(0)=(((remV a b).iv).lo):=by with_reducible first | exact h9.1.1 | exact h9.1.2 | exact h9.2.1 | exact h9.2.2
       have e107:(0)=(((remV a b).iv).hi):=by with_reducible first | exact h9.1.1 | exact h9.1.2 | exact h9.2.1 | exact h9.2.2
       have e108:(true)=((remV a b).live):=by with_reducible first | exact h9.1.1 | exact h9.1.2 | exact h9.2.1 | exact h9.2.2
       have e109:(0)=((remV a b).alarms):=by with_reducible first | exact h9.1.1 | exact h9.1.2 | exact h9.2.1 | exact h9.2.2
       have hc110:=eq4 (fun z1 z2 z3 z4=>some (k1+1+1,k105+1,O.box [.d (.v (.int .i64 (z1))),.d (.v (.int .i64 (z2))),.d (.v (.bool (z3))),.d (.v (.int .i64 (z4)))])) e106 e107 e108 e109
       exact fin0 (.inr Y) (.cell (cells:=[.d (.v (.int .i64 (((remV a b).iv).lo))),.d (.v (.int .i64 (((remV a b).iv).hi))),.d (.v (.bool ((remV a b).live))),.d (.v (.int .i64 ((remV a b).alarms)))]) Y hc110 t36 Y Y .nil) (.dd (.dd (.dd (.dd .nil)))) Y
end Go.Proofs

namespace Go.Proofs
open Go Go.Proofs Go.Ev

def Val.c (x:Val):List D:=[.v (.int .i64 (x.iv.lo)),.v (.int .i64 (x.iv.hi)),.v (.bool (x.live)),.v (.int .i64 (x.alarms))]
theorem Val.c_o (x:Val):∀ d∈Val.c x,Owned d:=by simp [Val.c,Owned.v]
theorem Val.c_e (x:Val):(Val.c x).map D.erase=Val.c x:=by simp [Val.c,D.erase_v]
def Bnd.c82 (x:Bnd):List D:=[.sl false 9 1 (List.map strc (x.d.vars)),.sl false 9 1 (List.map strc (x.d.flags)),.sl false 120 2 (List.map Arr.c (x.d.arrays)),.v (.bool (x.e.live)),.sl false 34 2 (List.map Iv.c (x.e.ints)),.sl false 34 2 (List.map Iv.c (x.e.arrs)),.v (.int .i64 (x.leaf))]
theorem Bnd.c82_e (x:Bnd):(Bnd.c82 x).map D.erase=Bnd.c82 x:=by simp [Bnd.c82,D.erase_v,erase_slo _ _ _ _ _ _ strc_e,erase_slo _ _ _ _ _ _ Arr.c_e,erase_slo _ _ _ _ _ _ Iv.c_e]
def Bnd.co82 (x:Bnd):List D:=[.sl true 9 1 (List.map strc (x.d.vars)),.sl true 9 1 (List.map strc (x.d.flags)),.sl true 120 2 (List.map Arr.c (x.d.arrays)),.v (.bool (x.e.live)),.sl true 34 2 (List.map Iv.c (x.e.ints)),.sl true 34 2 (List.map Iv.c (x.e.arrs)),.v (.int .i64 (x.leaf))]
theorem Bnd.co82_e (x:Bnd):(Bnd.co82 x).map D.erase=Bnd.c82 x:=by simp [Bnd.co82,Bnd.c82,D.erase_v,erase_slo _ _ _ _ _ _ strc_e,erase_slo _ _ _ _ _ _ Arr.c_e,erase_slo _ _ _ _ _ _ Iv.c_e]
theorem Bnd.co82_o (x:Bnd):∀ d∈Bnd.co82 x,Owned d:=by simp [Bnd.co82,Owned.v,Owned.map _ _ _ _ strc_o,Owned.map _ _ _ _ Arr.c_o,Owned.map _ _ _ _ Iv.c_o]
def i82:TI:=⟨.st [(0,40),(3,46),(6,2)],7,136,[.slice none 0 0,.slice none 0 0,.slice none 0 0,.bool false,.slice none 0 0,.slice none 0 0,.int .i64 0]⟩
theorem t82:TyOk Tryz.prog 82 i82:=⟨⟨_,Tryz.underlying82,rfl⟩,by kernel_rfl⟩
theorem z82:ZOk Tryz.prog 82 i82:=⟨t82,rfl⟩
theorem p82:Places Tryz.prog [(0,40),(3,46),(6,2)] [(0,3),(3,3),(6,1)]:=by unfold Places; kernel_rfl
theorem c_live (a:Iv):Trip Tryz.prog 79 [(true,2)] (Iv.c a) [(true,4)] [.v (.int .i64 (((Val.mk a true 0).iv).lo)),.v (.int .i64 (((Val.mk a true 0).iv).hi)),.v (.bool ((Val.mk a true 0).live)),.v (.int .i64 ((Val.mk a true 0).alarms))] []:=by
 refine Trip.of Tryz.func79 (by decide) (c:=_) Y Y (Nat.le_of_ble_eq_true Y) Y (AftOk.nil _)<|.seq<|.rs fun k1=>.g (fun _ τ=>⟨_,.box (.no Y) Y Y Y Y Y τ⟩)<|.g (fun _ τ=>⟨_,.alloc (.no Y) Y z36 Y Y Y τ⟩)<|.z<|.seq<|.rs fun k2=>.lda t34 Y (.ptr _ _ _ _ _ Y) Y ?_
 refine .g (fun _ τ=>⟨_,.build (.no Y) Y z36 Y p36 Y Y Y Y τ⟩)<|.g (fun _ τ=>⟨_,.store (.no Y) Y t36 Y Y Y Y Y Y Y Y Y τ⟩)<|.z<|.ret ?_
 have e3:(a.lo)=(((Val.mk a true 0).iv).lo):=by rfl
 have e4:(a.hi)=(((Val.mk a true 0).iv).hi):=by rfl
 have e5:(true)=((Val.mk a true 0).live):=by rfl
 have e6:(0)=((Val.mk a true 0).alarms):=by rfl
 have hc7:=eq4 (fun z1 z2 z3 z4=>some (k1+1,k2+1+1,O.box [.d (.v (.int .i64 (z1))),.d (.v (.int .i64 (z2))),.d (.v (.bool (z3))),.d (.v (.int .i64 (z4)))])) e3 e4 e5 e6
 exact fin0 (.inr Y) (.cell (cells:=[.d (.v (.int .i64 (((Val.mk a true 0).iv).lo))),.d (.v (.int .i64 (((Val.mk a true 0).iv).hi))),.d (.v (.bool ((Val.mk a true 0).live))),.d (.v (.int .i64 ((Val.mk a true 0).alarms)))]) Y hc7 t36 Y Y .nil) (.dd (.dd (.dd (.dd .nil)))) Y
theorem c_l7Know (a:Iv):Trip Tryz.prog 66 [(true,2)] (Iv.c a) [(true,4)] [.v (.int .i64 (((Val.mk a true 0).iv).lo)),.v (.int .i64 (((Val.mk a true 0).iv).hi)),.v (.bool ((Val.mk a true 0).live)),.v (.int .i64 ((Val.mk a true 0).alarms))] []:=by
 refine Trip.of Tryz.func66 (by decide) (c:=_) Y Y (Nat.le_of_ble_eq_true Y) Y (AftOk.nil _)<|.seq<|.rs fun k1=>.g (fun _ τ=>⟨_,.box (.no Y) Y Y Y Y Y τ⟩)<|.g (fun _ τ=>⟨_,.alloc (.no Y) Y z36 Y Y Y τ⟩)<|.z<|.seq<|.rs fun k2=>.lda t34 Y (.ptr _ _ _ _ _ Y) Y ?_
 refine .g (fun _ τ=>⟨_,.build (.no Y) Y z36 Y p36 Y Y Y Y τ⟩)<|.g (fun _ τ=>⟨_,.store (.no Y) Y t36 Y Y Y Y Y Y Y Y Y τ⟩)<|.z<|.ret ?_
 have e3:(a.lo)=(((Val.mk a true 0).iv).lo):=by rfl
 have e4:(a.hi)=(((Val.mk a true 0).iv).hi):=by rfl
 have e5:(true)=((Val.mk a true 0).live):=by rfl
 have e6:(0)=((Val.mk a true 0).alarms):=by rfl
 have hc7:=eq4 (fun z1 z2 z3 z4=>some (k1+1,k2+1+1,O.box [.d (.v (.int .i64 (z1))),.d (.v (.int .i64 (z2))),.d (.v (.bool (z3))),.d (.v (.int .i64 (z4)))])) e3 e4 e5 e6
 exact fin0 (.inr Y) (.cell (cells:=[.d (.v (.int .i64 (((Val.mk a true 0).iv).lo))),.d (.v (.int .i64 (((Val.mk a true 0).iv).hi))),.d (.v (.bool ((Val.mk a true 0).live))),.d (.v (.int .i64 ((Val.mk a true 0).alarms)))]) Y hc7 t36 Y Y .nil) (.dd (.dd (.dd (.dd .nil)))) Y
theorem c_eqVal (a:Val) (b:Val):Trip Tryz.prog 13 [(true,4),(true,4)] (Val.c a++Val.c b) [(false,1)] [.v (.bool (Val.same a b))] []:=by
 refine Trip.of Tryz.func13 (by decide) (c:=_) Y Y (Nat.le_of_ble_eq_true Y) Y (AftOk.nil _)<|.seq<|.rs fun k1=>.g (fun _ τ=>⟨_,.box (.no Y) Y Y Y Y Y τ⟩)<|.g (fun _ τ=>⟨_,.box (.no Y) Y Y Y Y Y τ⟩)<|.as Y<|.z<|.seq<|.seq ?_
 refine .rs fun k2=>.fp t36 t34 Y<|.lda t34 Y (.ptr _ _ _ _ _ Y) Y<|.fp t36 t34 Y<|.lda t34 Y (.ptr _ _ _ _ _ Y) Y<|.c0 (c_eqInterval a.iv b.iv) Y (.dd (.dd (.dd (.dd .nil)))) (.own [9,0] .nil) Y<|.un Y<|.z ?_
 refine .cond (t:=!(Iv.same a.iv b.iv)) Y (fun c0=>?_) (fun c0=>?_)
 ·have c0:=(nT id) c0
  refine .seq<|.rs fun k3=>.as Y<|.z<|.ret ?_
  exact fin0 (.inr Y) (.one (svB (show (false)=(Val.same a b) by (unfold Val.same; simp_all [Iv.same]))) .nil) (.dd .nil) Y
 ·have c0:=(nF id) c0
  refine .skip<|.seq<|.seq<|.rs fun k5=>.fp t36 t4 Y<|.ld t4 Y (.ptr _ _ _ _ _ Y) Y<|.fp t36 t4 Y<|.ld t4 Y (.ptr _ _ _ _ _ Y) Y<|.g (fun _ τ=>⟨_,.neB (.no Y) Y t4 Y Y Y Y Y τ⟩) ?_
  refine .z ?_
  refine .cond (t:=a.live != b.live) Y (fun c1=>?_) (fun c1=>?_)
  ·have c1:=(by simpa using c1:¬ (a.live=b.live))
   refine .seq<|.rs fun k6=>.as Y<|.z<|.ret ?_
   exact fin0 (.inr Y) (.one (svB (show (false)=(Val.same a b) by (unfold Val.same; simp_all [Iv.same]))) .nil) (.dd .nil) Y
  ·have c1:=(by simpa using c1:a.live=b.live)
   refine .skip<|.seq<|.seq<|.rs fun k8=>.fp t36 t2 Y<|.ld t2 Y (.ptr _ _ _ _ _ Y) Y<|.fp t36 t2 Y<|.ld t2 Y (.ptr _ _ _ _ _ Y) Y<|.bi Y ?_
   refine .z ?_
   refine .cond (t:=a.alarms != b.alarms) Y (fun c2=>?_) (fun c2=>?_)
   ·have c2:=(by simpa using c2:¬ (a.alarms=b.alarms))
    refine .seq<|.rs fun k9=>.as Y<|.z<|.ret ?_
    exact fin0 (.inr Y) (.one (svB (show (false)=(Val.same a b) by (unfold Val.same; simp_all [Iv.same]))) .nil) (.dd .nil) Y
   ·have c2:=(by simpa using c2:a.alarms=b.alarms)
    refine .skip<|.seq<|.rs fun k11=>.as Y<|.z<|.ret ?_
    exact fin0 (.inr Y) (.one (svB (show (true)=(Val.same a b) by (unfold Val.same; simp_all [Iv.same]))) .nil) (.dd .nil) Y
theorem c_bthing (b:Bnd) (t:Tok) (hv:t.op=2→0≤t.n∧t.n < b.e.ints.length) (hg:t.op=3→0≤t.n∧t.n≤9223372036854775807):Trip Tryz.prog 80 [(true,7),(true,2)] (Bnd.c82 b++Tok.c t) [(true,2)] [.v (.int .i64 ((oneV b.e b.leaf t).lo)),.v (.int .i64 ((oneV b.e b.leaf t).hi))] []:=by
 refine Trip.of Tryz.func80 (by decide) (c:=_) Y Y (Nat.le_of_ble_eq_true Y) Y (AftOk.nil _)<|.sla (t:=0) 0 Y Y fun hs1l=>.sla (t:=0) 1 Y Y fun hs2l=>.sla (t:=0) 2 Y Y fun hs3l=>.sla (t:=0) 4 Y Y fun hs4l=>.sla (t:=0) 5 Y Y fun hs5l=>.seq<|.rs fun k6=>.g (fun _ τ=>⟨_,.box (.no Y) Y Y Y Y Y τ⟩) ?_
 refine .g (fun _ τ=>⟨_,.box (.no Y) Y Y Y Y Y τ⟩)<|.g (fun _ τ=>⟨_,.alloc (.no Y) Y z34 Y Y Y τ⟩)<|.z<|.seq<|.seq<|.rs fun k7=>.fp t77 t2 Y<|.ld t2 Y (.ptr _ _ _ _ _ Y) Y<|.z ?_
 refine .block<|.seq<|.rs fun k8=>.bi Y<|.as Y<|.z ?_
 refine .cond (t:=t.op == 1) Y (fun c0=>?_) (fun c0=>?_)
 ·have c0:=(by simpa using c0:t.op=1)
  refine .seq<|.rs fun k9=>.fp t77 t2 Y<|.ld t2 Y (.ptr _ _ _ _ _ Y) Y<|.c0 (c_one t.n) Y (.dd .nil) (.own [11,0] (.own [11,1] .nil)) Y<|.g (fun _ τ=>⟨_,.store (.no Y) Y t34 Y Y Y Y Y Y Y Y Y τ⟩)<|.z<|.ret ?_
  have e10:((Iv.mk t.n t.n).lo)=((oneV b.e b.leaf t).lo):=by first | with_reducible exact (Iv.eqs (one_2 c1)).1 | with_reducible exact (Iv.eqs (one_2 c1)).2 | with_reducible exact (Iv.parts (one_1 c0)).1 | with_reducible exact (Iv.parts (one_1 c0)).2 | with_reducible exact (Iv.parts (one_3 c2)).1 | with_reducible exact (Iv.parts (one_3 c2)).2 | with_reducible exact (Iv.parts (one_4 c0 c1 c2)).1 | with_reducible exact (Iv.parts (one_4 c0 c1 c2)).2
  have e11:((Iv.mk t.n t.n).hi)=((oneV b.e b.leaf t).hi):=by first | with_reducible exact (Iv.eqs (one_2 c1)).1 | with_reducible exact (Iv.eqs (one_2 c1)).2 | with_reducible exact (Iv.parts (one_1 c0)).1 | with_reducible exact (Iv.parts (one_1 c0)).2 | with_reducible exact (Iv.parts (one_3 c2)).1 | with_reducible exact (Iv.parts (one_3 c2)).2 | with_reducible exact (Iv.parts (one_4 c0 c1 c2)).1 | with_reducible exact (Iv.parts (one_4 c0 c1 c2)).2
  have hc12:=eq2 (fun z1 z2=>some (k6+1+1,k9+1+1+1,O.box [.d (.v (.int .i64 (z1))),.d (.v (.int .i64 (z2)))])) e10 e11
  exact fin0 (.inr Y) (.cell (cells:=[.d (.v (.int .i64 ((oneV b.e b.leaf t).lo))),.d (.v (.int .i64 ((oneV b.e b.leaf t).hi)))]) Y hc12 t34 Y Y .nil) (.dd (.dd .nil)) Y
 ·have c0:=(by simpa using c0:¬ (t.op=1))
  refine .seq<|.rs fun k13=>.bi Y<|.as Y<|.z ?_
  refine .cond (t:=t.op == 2) Y (fun c1=>?_) (fun c1=>?_)
  ·have c1:=(by simpa using c1:t.op=2)
   refine .seq<|.rs fun k14=>.fp t82 t46 Y<|.fp t46 t44 Y<|.ld t44 Y (.ptr _ _ _ _ _ Y) Y<|.fp t77 t2 Y<|.ld t2 Y (.ptr _ _ _ _ _ Y) Y<|.g (fun _ τ=>⟨_,.indexAddr (.no Y) Y ((t.n).toNat) t44 Y t34 Y Y Y (.d _ _) Y Y (by omega) (map_get (by omega)) Y Y τ⟩)<|.lda t34 Y (.d _) Y ?_
   refine .g (fun _ τ=>⟨_,.store (.no Y) Y t34 Y Y Y Y Y Y Y Y Y τ⟩)<|.z<|.ret ?_
   have e15:((b.e.ints.getD ((t.n).toNat) default).lo)=((oneV b.e b.leaf t).lo):=by first | with_reducible exact (Iv.eqs (one_2 c1)).1 | with_reducible exact (Iv.eqs (one_2 c1)).2 | with_reducible exact (Iv.parts (one_1 c0)).1 | with_reducible exact (Iv.parts (one_1 c0)).2 | with_reducible exact (Iv.parts (one_3 c2)).1 | with_reducible exact (Iv.parts (one_3 c2)).2 | with_reducible exact (Iv.parts (one_4 c0 c1 c2)).1 | with_reducible exact (Iv.parts (one_4 c0 c1 c2)).2
   have e16:((b.e.ints.getD ((t.n).toNat) default).hi)=((oneV b.e b.leaf t).hi):=by first | with_reducible exact (Iv.eqs (one_2 c1)).1 | with_reducible exact (Iv.eqs (one_2 c1)).2 | with_reducible exact (Iv.parts (one_1 c0)).1 | with_reducible exact (Iv.parts (one_1 c0)).2 | with_reducible exact (Iv.parts (one_3 c2)).1 | with_reducible exact (Iv.parts (one_3 c2)).2 | with_reducible exact (Iv.parts (one_4 c0 c1 c2)).1 | with_reducible exact (Iv.parts (one_4 c0 c1 c2)).2
   have hc17:=eq2 (fun z1 z2=>some (k6+1+1,k14+1+1+1+1+1+1+1,O.box [.d (.v (.int .i64 (z1))),.d (.v (.int .i64 (z2)))])) e15 e16
   exact fin0 (.inr Y) (.cell (cells:=[.d (.v (.int .i64 ((oneV b.e b.leaf t).lo))),.d (.v (.int .i64 ((oneV b.e b.leaf t).hi)))]) Y hc17 t34 Y Y .nil) (.dd (.dd .nil)) Y
  ·have c1:=(by simpa using c1:¬ (t.op=2))
   refine .seq<|.rs fun k18=>.bi Y<|.as Y<|.z ?_
   refine .cond (t:=t.op == 3) Y (fun c2=>?_) (fun c2=>?_)
   ·have c2:=(by simpa using c2:t.op=3)
    refine .seq<|.rs fun k19=>.fp t82 t2 Y<|.ld t2 Y (.ptr _ _ _ _ _ Y) Y<|.fp t77 t2 Y<|.ld t2 Y (.ptr _ _ _ _ _ Y) Y<|.g (fun _ τ=>⟨_,.shr (.no Y) Y Y Y Y (by (exact (hg c2).1)) Y Y τ⟩)<|.bi Y<|.c0 (c_one (IntKind.wrap .i64 ((BitVec.ofInt (IntKind.bits .i64) (b.leaf.fdiv (2 ^ (min (t.n).toNat (IntKind.bits .i64)))) &&& BitVec.ofInt (IntKind.bits .i64) 1).toNat:Int))) Y (.dd .nil) (.own [29,0] (.own [29,1] .nil)) Y ?_
    refine .g (fun _ τ=>⟨_,.store (.no Y) Y t34 Y Y Y Y Y Y Y Y Y τ⟩)<|.z<|.ret ?_
    have e20:((Iv.mk (IntKind.wrap .i64 ((BitVec.ofInt (IntKind.bits .i64) (b.leaf.fdiv (2 ^ (min (t.n).toNat (IntKind.bits .i64)))) &&& BitVec.ofInt (IntKind.bits .i64) 1).toNat:Int)) (IntKind.wrap .i64 ((BitVec.ofInt (IntKind.bits .i64) (b.leaf.fdiv (2 ^ (min (t.n).toNat (IntKind.bits .i64)))) &&& BitVec.ofInt (IntKind.bits .i64) 1).toNat:Int))).lo)=((oneV b.e b.leaf t).lo):=by first | with_reducible exact (Iv.eqs (one_2 c1)).1 | with_reducible exact (Iv.eqs (one_2 c1)).2 | with_reducible exact (Iv.parts (one_1 c0)).1 | with_reducible exact (Iv.parts (one_1 c0)).2 | with_reducible exact (Iv.parts (one_3 c2)).1 | with_reducible exact (Iv.parts (one_3 c2)).2 | with_reducible exact (Iv.parts (one_4 c0 c1 c2)).1 | with_reducible exact (Iv.parts (one_4 c0 c1 c2)).2
    have e21:((Iv.mk (IntKind.wrap .i64 ((BitVec.ofInt (IntKind.bits .i64) (b.leaf.fdiv (2 ^ (min (t.n).toNat (IntKind.bits .i64)))) &&& BitVec.ofInt (IntKind.bits .i64) 1).toNat:Int)) (IntKind.wrap .i64 ((BitVec.ofInt (IntKind.bits .i64) (b.leaf.fdiv (2 ^ (min (t.n).toNat (IntKind.bits .i64)))) &&& BitVec.ofInt (IntKind.bits .i64) 1).toNat:Int))).hi)=((oneV b.e b.leaf t).hi):=by first | with_reducible exact (Iv.eqs (one_2 c1)).1 | with_reducible exact (Iv.eqs (one_2 c1)).2 | with_reducible exact (Iv.parts (one_1 c0)).1 | with_reducible exact (Iv.parts (one_1 c0)).2 | with_reducible exact (Iv.parts (one_3 c2)).1 | with_reducible exact (Iv.parts (one_3 c2)).2 | with_reducible exact (Iv.parts (one_4 c0 c1 c2)).1 | with_reducible exact (Iv.parts (one_4 c0 c1 c2)).2
    have hc22:=eq2 (fun z1 z2=>some (k6+1+1,k19+1+1+1+1+1+1+1,O.box [.d (.v (.int .i64 (z1))),.d (.v (.int .i64 (z2)))])) e20 e21
    exact fin0 (.inr Y) (.cell (cells:=[.d (.v (.int .i64 ((oneV b.e b.leaf t).lo))),.d (.v (.int .i64 ((oneV b.e b.leaf t).hi)))]) Y hc22 t34 Y Y .nil) (.dd (.dd .nil)) Y
   ·have c2:=(by simpa using c2:¬ (t.op=3))
    refine .skip<|.seq<|.rs fun k23=>.fp t77 t2 Y<|.ld t2 Y (.ptr _ _ _ _ _ Y) Y<|.bi Y<|.c0 (c_truth (t.op == 4)) Y (.dd .nil) (.own [33,0] .nil) Y<|.c0 (c_one (truthN (t.op == 4))) Y (.dd .nil) (.own [34,0] (.own [34,1] .nil)) Y<|.g (fun _ τ=>⟨_,.store (.no Y) Y t34 Y Y Y Y Y Y Y Y Y τ⟩) ?_
    refine .z<|.ret ?_
    have e24:((Iv.mk (truthN (t.op == 4)) (truthN (t.op == 4))).lo)=((oneV b.e b.leaf t).lo):=by first | with_reducible exact (Iv.eqs (one_2 c1)).1 | with_reducible exact (Iv.eqs (one_2 c1)).2 | with_reducible exact (Iv.parts (one_1 c0)).1 | with_reducible exact (Iv.parts (one_1 c0)).2 | with_reducible exact (Iv.parts (one_3 c2)).1 | with_reducible exact (Iv.parts (one_3 c2)).2 | with_reducible exact (Iv.parts (one_4 c0 c1 c2)).1 | with_reducible exact (Iv.parts (one_4 c0 c1 c2)).2
    have e25:((Iv.mk (truthN (t.op == 4)) (truthN (t.op == 4))).hi)=((oneV b.e b.leaf t).hi):=by first | with_reducible exact (Iv.eqs (one_2 c1)).1 | with_reducible exact (Iv.eqs (one_2 c1)).2 | with_reducible exact (Iv.parts (one_1 c0)).1 | with_reducible exact (Iv.parts (one_1 c0)).2 | with_reducible exact (Iv.parts (one_3 c2)).1 | with_reducible exact (Iv.parts (one_3 c2)).2 | with_reducible exact (Iv.parts (one_4 c0 c1 c2)).1 | with_reducible exact (Iv.parts (one_4 c0 c1 c2)).2
    have hc26:=eq2 (fun z1 z2=>some (k6+1+1,k23+1+1+1+1+1,O.box [.d (.v (.int .i64 (z1))),.d (.v (.int .i64 (z2)))])) e24 e25
    exact fin0 (.inr Y) (.cell (cells:=[.d (.v (.int .i64 ((oneV b.e b.leaf t).lo))),.d (.v (.int .i64 ((oneV b.e b.leaf t).hi)))]) Y hc26 t34 Y Y .nil) (.dd (.dd .nil)) Y
end Go.Proofs

namespace Go.Proofs
open Go Go.Proofs Go.Ev

theorem c_bof (b:Bnd) (t:Tok) (a:Iv) (hv:t.op=6→0≤t.n∧t.n < b.e.arrs.length∧t.n < b.d.arrays.length) (ha:FitI a):Trip Tryz.prog 81 [(true,7),(true,2),(true,2)] (Bnd.c82 b++Tok.c t++Iv.c a) [(true,4)] [.v (.int .i64 (((ofV b.d b.e t a).iv).lo)),.v (.int .i64 (((ofV b.d b.e t a).iv).hi)),.v (.bool ((ofV b.d b.e t a).live)),.v (.int .i64 ((ofV b.d b.e t a).alarms))] []:=by
 refine Trip.of Tryz.func81 (by decide) (c:=_) Y Y (Nat.le_of_ble_eq_true Y) Y (AftOk.nil _)<|.sla (t:=0) 0 Y Y fun hs1l=>.sla (t:=0) 1 Y Y fun hs2l=>.sla (t:=0) 2 Y Y fun hs3l=>.sla (t:=0) 4 Y Y fun hs4l=>.sla (t:=0) 5 Y Y fun hs5l=>.seq<|.rs fun k6=>.g (fun _ τ=>⟨_,.box (.no Y) Y Y Y Y Y τ⟩) ?_
 refine .g (fun _ τ=>⟨_,.box (.no Y) Y Y Y Y Y τ⟩)<|.g (fun _ τ=>⟨_,.box (.no Y) Y Y Y Y Y τ⟩)<|.g (fun _ τ=>⟨_,.alloc (.no Y) Y z36 Y Y Y τ⟩)<|.z<|.seq<|.seq<|.rs fun k7=>.fp t77 t2 Y<|.ld t2 Y (.ptr _ _ _ _ _ Y) Y ?_
 refine .z<|.block<|.seq<|.rs fun k8=>.bi Y<|.as Y<|.z ?_
 refine .cond (t:=t.op == 6) Y (fun c0=>?_) (fun c0=>?_)
 ·have c0:=(by simpa using c0:t.op=6)
  refine .seq<|.rs fun k9=>.fp t82 t40 Y<|.lda t40 Y (.ptr _ _ _ _ _ Y) Y<|.fp t77 t2 Y<|.ld t2 Y (.ptr _ _ _ _ _ Y) Y<|.lda t34 Y (.ptr _ _ _ _ _ Y) Y<|.c0 (c_placed b.d t.n a (by first | assumption | omega | exact of_decide_eq_true c0.2 | exact fit_zero | (have h9:=hv c0; exact ⟨h9.1,h9.2.2⟩))) Y (.dd (.dd (.dd (.dd (.dd (.dd .nil)))))) (.own [19,0] (.own [19,1] .nil)) Y<|.g (fun _ τ=>⟨_,.move (.no Y) Y Y Y Y τ⟩) ?_
  refine .g (fun _ τ=>⟨_,.extract (.no Y) Y Y Y Y Y τ⟩)<|.g (fun _ τ=>⟨_,.extract (.no Y) Y Y Y Y Y τ⟩)<|.as Y<|.as Y<|.z<|.seq<|.seq<|.rs fun k10=>.mv Y ?_
  refine .un Y<|.z ?_
  refine .cond (t:=!(Iv.meets a (allOf ((b.d.arrays.getD t.n.toNat default).size)))) Y (fun c1=>?_) (fun c1=>?_)
  ·have c1:=(nT id) c1
   refine .seq<|.rs fun k11=>.mv Y<|.g (fun _ τ=>⟨_,.build (.no Y) Y z36 Y p36 Y Y Y Y τ⟩)<|.g (fun _ τ=>⟨_,.store (.no Y) Y t36 Y Y Y Y Y Y Y Y Y τ⟩)<|.z<|.ret ?_
   have h9:=Val.parts (ofV_6n (e:=b.e) c0 c1)
   have e12:(0)=(((ofV b.d b.e t a).iv).lo):=by with_reducible first | exact h9.1.1 | exact h9.1.2 | exact h9.2.1 | exact h9.2.2
   have e13:(0)=(((ofV b.d b.e t a).iv).hi):=by with_reducible first | exact h9.1.1 | exact h9.1.2 | exact h9.2.1 | exact h9.2.2
   have e14:(false)=((ofV b.d b.e t a).live):=by with_reducible first | exact h9.1.1 | exact h9.1.2 | exact h9.2.1 | exact h9.2.2
   have e15:(alarmOf a ((b.d.arrays.getD t.n.toNat default).size))=((ofV b.d b.e t a).alarms):=by with_reducible first | exact h9.1.1 | exact h9.1.2 | exact h9.2.1 | exact h9.2.2
   have hc16:=eq4 (fun z1 z2 z3 z4=>some (k6+1+1+1,k11+1+1,O.box [.d (.v (.int .i64 (z1))),.d (.v (.int .i64 (z2))),.d (.v (.bool (z3))),.d (.v (.int .i64 (z4)))])) e12 e13 e14 e15
   exact fin0 (.inr Y) (.cell (cells:=[.d (.v (.int .i64 (((ofV b.d b.e t a).iv).lo))),.d (.v (.int .i64 (((ofV b.d b.e t a).iv).hi))),.d (.v (.bool ((ofV b.d b.e t a).live))),.d (.v (.int .i64 ((ofV b.d b.e t a).alarms)))]) Y hc16 t36 Y Y .nil) (.dd (.dd (.dd (.dd .nil)))) Y
  ·have c1:=(nF id) c1
   refine .skip<|.seq<|.rs fun k17=>.fp t82 t46 Y<|.fp t46 t44 Y<|.ld t44 Y (.ptr _ _ _ _ _ Y) Y<|.fp t77 t2 Y<|.ld t2 Y (.ptr _ _ _ _ _ Y) Y<|.g (fun _ τ=>⟨_,.indexAddr (.no Y) Y ((t.n).toNat) t44 Y t34 Y Y Y (.d _ _) Y Y (by omega) (map_get (by omega)) Y Y τ⟩) ?_
   refine .lda t34 Y (.d _) Y<|.mv Y<|.g (fun _ τ=>⟨_,.build (.no Y) Y z36 Y p36 Y Y Y Y τ⟩)<|.g (fun _ τ=>⟨_,.store (.no Y) Y t36 Y Y Y Y Y Y Y Y Y τ⟩)<|.z<|.ret ?_
   have h9:=Val.eqs (ofV_6 (e:=b.e) c0 c1)
   have e18:((b.e.arrs.getD ((t.n).toNat) default).lo)=(((ofV b.d b.e t a).iv).lo):=by with_reducible first | exact h9.1.1 | exact h9.1.2 | exact h9.2.1 | exact h9.2.2
   have e19:((b.e.arrs.getD ((t.n).toNat) default).hi)=(((ofV b.d b.e t a).iv).hi):=by with_reducible first | exact h9.1.1 | exact h9.1.2 | exact h9.2.1 | exact h9.2.2
   have e20:(true)=((ofV b.d b.e t a).live):=by with_reducible first | exact h9.1.1 | exact h9.1.2 | exact h9.2.1 | exact h9.2.2
   have e21:(alarmOf a ((b.d.arrays.getD t.n.toNat default).size))=((ofV b.d b.e t a).alarms):=by with_reducible first | exact h9.1.1 | exact h9.1.2 | exact h9.2.1 | exact h9.2.2
   have hc22:=eq4 (fun z1 z2 z3 z4=>some (k6+1+1+1,k17+1+1+1+1+1+1+1+1+1,O.box [.d (.v (.int .i64 (z1))),.d (.v (.int .i64 (z2))),.d (.v (.bool (z3))),.d (.v (.int .i64 (z4)))])) e18 e19 e20 e21
   exact fin0 (.inr Y) (.cell (cells:=[.d (.v (.int .i64 (((ofV b.d b.e t a).iv).lo))),.d (.v (.int .i64 (((ofV b.d b.e t a).iv).hi))),.d (.v (.bool ((ofV b.d b.e t a).live))),.d (.v (.int .i64 ((ofV b.d b.e t a).alarms)))]) Y hc22 t36 Y Y .nil) (.dd (.dd (.dd (.dd .nil)))) Y
 ·have c0:=(by simpa using c0:¬ (t.op=6))
  refine .seq<|.rs fun k23=>.bi Y<|.as Y<|.z ?_
  refine .cond (t:=t.op == 7) Y (fun c2=>?_) (fun c2=>?_)
  ·have c2:=(by simpa using c2:t.op=7)
   refine .seq<|.rs fun k24=>.lda t34 Y (.ptr _ _ _ _ _ Y) Y<|.c0 (c_IvNeg a (by first | assumption | omega | exact of_decide_eq_true c0.2 | exact fit_zero | (have h9:=hv c0; exact ⟨h9.1,h9.2.2⟩))) Y (.dd (.dd .nil)) (.own [38,0] (.own [38,1] (.own [38,2] (.own [38,3] .nil)))) Y<|.g (fun _ τ=>⟨_,.store (.no Y) Y t36 Y Y Y Y Y Y Y Y Y τ⟩)<|.z<|.ret ?_
   have h9:=Val.eqs (ofV_7 (d:=b.d) (e:=b.e) (a:=a) c2)
   have e25:(((opV 45 (Iv.mk 0 0) a).iv).lo)=(((ofV b.d b.e t a).iv).lo):=by with_reducible first | exact h9.1.1 | exact h9.1.2 | exact h9.2.1 | exact h9.2.2
   have e26:(((opV 45 (Iv.mk 0 0) a).iv).hi)=(((ofV b.d b.e t a).iv).hi):=by with_reducible first | exact h9.1.1 | exact h9.1.2 | exact h9.2.1 | exact h9.2.2
   have e27:((opV 45 (Iv.mk 0 0) a).live)=((ofV b.d b.e t a).live):=by with_reducible first | exact h9.1.1 | exact h9.1.2 | exact h9.2.1 | exact h9.2.2
   have e28:((opV 45 (Iv.mk 0 0) a).alarms)=((ofV b.d b.e t a).alarms):=by with_reducible first | exact h9.1.1 | exact h9.1.2 | exact h9.2.1 | exact h9.2.2
   have hc29:=eq4 (fun z1 z2 z3 z4=>some (k6+1+1+1,k24+1+1,O.box [.d (.v (.int .i64 (z1))),.d (.v (.int .i64 (z2))),.d (.v (.bool (z3))),.d (.v (.int .i64 (z4)))])) e25 e26 e27 e28
   exact fin0 (.inr Y) (.cell (cells:=[.d (.v (.int .i64 (((ofV b.d b.e t a).iv).lo))),.d (.v (.int .i64 (((ofV b.d b.e t a).iv).hi))),.d (.v (.bool ((ofV b.d b.e t a).live))),.d (.v (.int .i64 ((ofV b.d b.e t a).alarms)))]) Y hc29 t36 Y Y .nil) (.dd (.dd (.dd (.dd .nil)))) Y
  ·have c2:=(by simpa using c2:¬ (t.op=7))
   refine .skip<|.seq<|.rs fun k30=>.fp t34 t2 Y<|.ld t2 Y (.ptr _ _ _ _ _ Y) Y<|.bi Y<|.fp t34 t2 Y<|.ld t2 Y (.ptr _ _ _ _ _ Y) Y<|.bi Y ?_
   refine .g (fun _ τ=>⟨_,.build (.no Y) Y z34 Y p34 Y Y Y Y τ⟩)<|.c0 (c_live (Iv.mk (IntKind.wrap .i64 (1 - a.hi)) (IntKind.wrap .i64 (1 - a.lo)))) Y (.dd (.dd .nil)) (.own [46,0] (.own [46,1] (.own [46,2] (.own [46,3] .nil)))) Y<|.g (fun _ τ=>⟨_,.store (.no Y) Y t36 Y Y Y Y Y Y Y Y Y τ⟩)<|.z<|.ret ?_
   have h9:=Val.parts (ofV_19 (d:=b.d) (e:=b.e) (a:=a) c0 c2)
   have e31:(((Val.mk (Iv.mk (IntKind.wrap .i64 (1 - a.hi)) (IntKind.wrap .i64 (1 - a.lo))) true 0).iv).lo)=(((ofV b.d b.e t a).iv).lo):=by with_reducible first | exact h9.1.1 | exact h9.1.2 | exact h9.2.1 | exact h9.2.2
   have e32:(((Val.mk (Iv.mk (IntKind.wrap .i64 (1 - a.hi)) (IntKind.wrap .i64 (1 - a.lo))) true 0).iv).hi)=(((ofV b.d b.e t a).iv).hi):=by with_reducible first | exact h9.1.1 | exact h9.1.2 | exact h9.2.1 | exact h9.2.2
   have e33:((Val.mk (Iv.mk (IntKind.wrap .i64 (1 - a.hi)) (IntKind.wrap .i64 (1 - a.lo))) true 0).live)=((ofV b.d b.e t a).live):=by with_reducible first | exact h9.1.1 | exact h9.1.2 | exact h9.2.1 | exact h9.2.2
   have e34:((Val.mk (Iv.mk (IntKind.wrap .i64 (1 - a.hi)) (IntKind.wrap .i64 (1 - a.lo))) true 0).alarms)=((ofV b.d b.e t a).alarms):=by with_reducible first | exact h9.1.1 | exact h9.1.2 | exact h9.2.1 | exact h9.2.2
   have hc35:=eq4 (fun z1 z2 z3 z4=>some (k6+1+1+1,k30+1+1+1+1+1+1+1+1,O.box [.d (.v (.int .i64 (z1))),.d (.v (.int .i64 (z2))),.d (.v (.bool (z3))),.d (.v (.int .i64 (z4)))])) e31 e32 e33 e34
   exact fin0 (.inr Y) (.cell (cells:=[.d (.v (.int .i64 (((ofV b.d b.e t a).iv).lo))),.d (.v (.int .i64 (((ofV b.d b.e t a).iv).hi))),.d (.v (.bool ((ofV b.d b.e t a).live))),.d (.v (.int .i64 ((ofV b.d b.e t a).alarms)))]) Y hc35 t36 Y Y .nil) (.dd (.dd (.dd (.dd .nil)))) Y
end Go.Proofs

namespace Go.Proofs
open Go Go.Proofs Go.Ev

theorem c_between (op:Int) (a:Iv) (b:Iv) (ha:FitI a) (hb:FitI b):Trip Tryz.prog 82 [(false,1),(true,2),(true,2)] ([.v (.int .i64 (op))]++Iv.c a++Iv.c b) [(true,4)] [.v (.int .i64 (((twoV op a b).iv).lo)),.v (.int .i64 (((twoV op a b).iv).hi)),.v (.bool ((twoV op a b).live)),.v (.int .i64 ((twoV op a b).alarms))] []:=by
 refine Trip.of Tryz.func82 (by decide) (c:=_) Y Y (Nat.le_of_ble_eq_true Y) Y (AftOk.nil _)<|.seq<|.rs fun k1=>.g (fun _ τ=>⟨_,.box (.no Y) Y Y Y Y Y τ⟩)<|.g (fun _ τ=>⟨_,.box (.no Y) Y Y Y Y Y τ⟩)<|.g (fun _ τ=>⟨_,.alloc (.no Y) Y z36 Y Y Y τ⟩)<|.z<|.seq<|.seq ?_
 refine .rs fun k2=>.mv Y<|.z<|.block<|.seq<|.rs fun k3=>.bi Y<|.as Y<|.z ?_
 refine .cond (t:=op == 8) Y (fun c0=>?_) (fun c0=>?_)
 ·have c0:=(by simpa using c0:op=8)
  refine .seq<|.rs fun k4=>.lda t34 Y (.ptr _ _ _ _ _ Y) Y<|.lda t34 Y (.ptr _ _ _ _ _ Y) Y<|.c0 (c_IvAdd a b (by assumption) (by assumption)) Y (.dd (.dd (.dd (.dd .nil)))) (.own [12,0] (.own [12,1] (.own [12,2] (.own [12,3] .nil)))) Y<|.g (fun _ τ=>⟨_,.store (.no Y) Y t36 Y Y Y Y Y Y Y Y Y τ⟩)<|.z<|.ret ?_
  have h9:=Val.eqs (two_8 (a:=a) (b:=b) c0)
  have e5:(((opV 43 a b).iv).lo)=(((twoV op a b).iv).lo):=by with_reducible first | exact h9.1.1 | exact h9.1.2 | exact h9.2.1 | exact h9.2.2
  have e6:(((opV 43 a b).iv).hi)=(((twoV op a b).iv).hi):=by with_reducible first | exact h9.1.1 | exact h9.1.2 | exact h9.2.1 | exact h9.2.2
  have e7:((opV 43 a b).live)=((twoV op a b).live):=by with_reducible first | exact h9.1.1 | exact h9.1.2 | exact h9.2.1 | exact h9.2.2
  have e8:((opV 43 a b).alarms)=((twoV op a b).alarms):=by with_reducible first | exact h9.1.1 | exact h9.1.2 | exact h9.2.1 | exact h9.2.2
  have hc9:=eq4 (fun z1 z2 z3 z4=>some (k1+1+1,k4+1+1+1,O.box [.d (.v (.int .i64 (z1))),.d (.v (.int .i64 (z2))),.d (.v (.bool (z3))),.d (.v (.int .i64 (z4)))])) e5 e6 e7 e8
  exact fin0 (.inr Y) (.cell (cells:=[.d (.v (.int .i64 (((twoV op a b).iv).lo))),.d (.v (.int .i64 (((twoV op a b).iv).hi))),.d (.v (.bool ((twoV op a b).live))),.d (.v (.int .i64 ((twoV op a b).alarms)))]) Y hc9 t36 Y Y .nil) (.dd (.dd (.dd (.dd .nil)))) Y
 ·have c0:=(by simpa using c0:¬ (op=8))
  refine .seq<|.rs fun k10=>.bi Y<|.as Y<|.z ?_
  refine .cond (t:=op == 9) Y (fun c1=>?_) (fun c1=>?_)
  ·have c1:=(by simpa using c1:op=9)
   refine .seq<|.rs fun k11=>.lda t34 Y (.ptr _ _ _ _ _ Y) Y<|.lda t34 Y (.ptr _ _ _ _ _ Y) Y<|.c0 (c_IvSub a b (by assumption) (by assumption)) Y (.dd (.dd (.dd (.dd .nil)))) (.own [17,0] (.own [17,1] (.own [17,2] (.own [17,3] .nil)))) Y<|.g (fun _ τ=>⟨_,.store (.no Y) Y t36 Y Y Y Y Y Y Y Y Y τ⟩)<|.z<|.ret ?_
   have h9:=Val.eqs (two_9 (a:=a) (b:=b) c1)
   have e12:(((opV 45 a b).iv).lo)=(((twoV op a b).iv).lo):=by with_reducible first | exact h9.1.1 | exact h9.1.2 | exact h9.2.1 | exact h9.2.2
   have e13:(((opV 45 a b).iv).hi)=(((twoV op a b).iv).hi):=by with_reducible first | exact h9.1.1 | exact h9.1.2 | exact h9.2.1 | exact h9.2.2
   have e14:((opV 45 a b).live)=((twoV op a b).live):=by with_reducible first | exact h9.1.1 | exact h9.1.2 | exact h9.2.1 | exact h9.2.2
   have e15:((opV 45 a b).alarms)=((twoV op a b).alarms):=by with_reducible first | exact h9.1.1 | exact h9.1.2 | exact h9.2.1 | exact h9.2.2
   have hc16:=eq4 (fun z1 z2 z3 z4=>some (k1+1+1,k11+1+1+1,O.box [.d (.v (.int .i64 (z1))),.d (.v (.int .i64 (z2))),.d (.v (.bool (z3))),.d (.v (.int .i64 (z4)))])) e12 e13 e14 e15
   exact fin0 (.inr Y) (.cell (cells:=[.d (.v (.int .i64 (((twoV op a b).iv).lo))),.d (.v (.int .i64 (((twoV op a b).iv).hi))),.d (.v (.bool ((twoV op a b).live))),.d (.v (.int .i64 ((twoV op a b).alarms)))]) Y hc16 t36 Y Y .nil) (.dd (.dd (.dd (.dd .nil)))) Y
  ·have c1:=(by simpa using c1:¬ (op=9))
   refine .seq<|.rs fun k17=>.bi Y<|.as Y<|.z ?_
   refine .cond (t:=op == 10) Y (fun c2=>?_) (fun c2=>?_)
   ·have c2:=(by simpa using c2:op=10)
    refine .seq<|.rs fun k18=>.lda t34 Y (.ptr _ _ _ _ _ Y) Y<|.lda t34 Y (.ptr _ _ _ _ _ Y) Y<|.c0 (c_IvMul a b (by assumption) (by assumption)) Y (.dd (.dd (.dd (.dd .nil)))) (.own [22,0] (.own [22,1] (.own [22,2] (.own [22,3] .nil)))) Y<|.g (fun _ τ=>⟨_,.store (.no Y) Y t36 Y Y Y Y Y Y Y Y Y τ⟩)<|.z<|.ret ?_
    have h9:=Val.eqs (two_10 (a:=a) (b:=b) c2)
    have e19:(((opV 42 a b).iv).lo)=(((twoV op a b).iv).lo):=by with_reducible first | exact h9.1.1 | exact h9.1.2 | exact h9.2.1 | exact h9.2.2
    have e20:(((opV 42 a b).iv).hi)=(((twoV op a b).iv).hi):=by with_reducible first | exact h9.1.1 | exact h9.1.2 | exact h9.2.1 | exact h9.2.2
    have e21:((opV 42 a b).live)=((twoV op a b).live):=by with_reducible first | exact h9.1.1 | exact h9.1.2 | exact h9.2.1 | exact h9.2.2
    have e22:((opV 42 a b).alarms)=((twoV op a b).alarms):=by with_reducible first | exact h9.1.1 | exact h9.1.2 | exact h9.2.1 | exact h9.2.2
    have hc23:=eq4 (fun z1 z2 z3 z4=>some (k1+1+1,k18+1+1+1,O.box [.d (.v (.int .i64 (z1))),.d (.v (.int .i64 (z2))),.d (.v (.bool (z3))),.d (.v (.int .i64 (z4)))])) e19 e20 e21 e22
    exact fin0 (.inr Y) (.cell (cells:=[.d (.v (.int .i64 (((twoV op a b).iv).lo))),.d (.v (.int .i64 (((twoV op a b).iv).hi))),.d (.v (.bool ((twoV op a b).live))),.d (.v (.int .i64 ((twoV op a b).alarms)))]) Y hc23 t36 Y Y .nil) (.dd (.dd (.dd (.dd .nil)))) Y
   ·have c2:=(by simpa using c2:¬ (op=10))
    refine .seq<|.rs fun k24=>.bi Y<|.as Y<|.z ?_
    refine .cond (t:=op == 11) Y (fun c3=>?_) (fun c3=>?_)
    ·have c3:=(by simpa using c3:op=11)
     refine .seq<|.rs fun k25=>.lda t34 Y (.ptr _ _ _ _ _ Y) Y<|.lda t34 Y (.ptr _ _ _ _ _ Y) Y<|.c0 (c_IvQuo a b (by assumption) (by assumption)) Y (.dd (.dd (.dd (.dd .nil)))) (.own [27,0] (.own [27,1] (.own [27,2] (.own [27,3] .nil)))) Y<|.g (fun _ τ=>⟨_,.store (.no Y) Y t36 Y Y Y Y Y Y Y Y Y τ⟩)<|.z<|.ret ?_
     have h9:=Val.eqs (two_11 (a:=a) (b:=b) c3)
     have e26:(((quoV a b).iv).lo)=(((twoV op a b).iv).lo):=by with_reducible first | exact h9.1.1 | exact h9.1.2 | exact h9.2.1 | exact h9.2.2
     have e27:(((quoV a b).iv).hi)=(((twoV op a b).iv).hi):=by with_reducible first | exact h9.1.1 | exact h9.1.2 | exact h9.2.1 | exact h9.2.2
     have e28:((quoV a b).live)=((twoV op a b).live):=by with_reducible first | exact h9.1.1 | exact h9.1.2 | exact h9.2.1 | exact h9.2.2
     have e29:((quoV a b).alarms)=((twoV op a b).alarms):=by with_reducible first | exact h9.1.1 | exact h9.1.2 | exact h9.2.1 | exact h9.2.2
     have hc30:=eq4 (fun z1 z2 z3 z4=>some (k1+1+1,k25+1+1+1,O.box [.d (.v (.int .i64 (z1))),.d (.v (.int .i64 (z2))),.d (.v (.bool (z3))),.d (.v (.int .i64 (z4)))])) e26 e27 e28 e29
     exact fin0 (.inr Y) (.cell (cells:=[.d (.v (.int .i64 (((twoV op a b).iv).lo))),.d (.v (.int .i64 (((twoV op a b).iv).hi))),.d (.v (.bool ((twoV op a b).live))),.d (.v (.int .i64 ((twoV op a b).alarms)))]) Y hc30 t36 Y Y .nil) (.dd (.dd (.dd (.dd .nil)))) Y
    ·have c3:=(by simpa using c3:¬ (op=11))
     refine .seq<|.rs fun k31=>.bi Y<|.as Y<|.z ?_
     refine .cond (t:=op == 12) Y (fun c4=>?_) (fun c4=>?_)
     ·have c4:=(by simpa using c4:op=12)
      refine .seq<|.rs fun k32=>.lda t34 Y (.ptr _ _ _ _ _ Y) Y<|.lda t34 Y (.ptr _ _ _ _ _ Y) Y<|.c0 (c_IvRem a b (by assumption) (by assumption)) Y (.dd (.dd (.dd (.dd .nil)))) (.own [32,0] (.own [32,1] (.own [32,2] (.own [32,3] .nil)))) Y<|.g (fun _ τ=>⟨_,.store (.no Y) Y t36 Y Y Y Y Y Y Y Y Y τ⟩)<|.z<|.ret ?_
      have h9:=Val.eqs (two_12 (a:=a) (b:=b) c4)
      have e33:(((remV a b).iv).lo)=(((twoV op a b).iv).lo):=by with_reducible first | exact h9.1.1 | exact h9.1.2 | exact h9.2.1 | exact h9.2.2
      have e34:(((remV a b).iv).hi)=(((twoV op a b).iv).hi):=by with_reducible first | exact h9.1.1 | exact h9.1.2 | exact h9.2.1 | exact h9.2.2
      have e35:((remV a b).live)=((twoV op a b).live):=by with_reducible first | exact h9.1.1 | exact h9.1.2 | exact h9.2.1 | exact h9.2.2
      have e36:((remV a b).alarms)=((twoV op a b).alarms):=by with_reducible first | exact h9.1.1 | exact h9.1.2 | exact h9.2.1 | exact h9.2.2
      have hc37:=eq4 (fun z1 z2 z3 z4=>some (k1+1+1,k32+1+1+1,O.box [.d (.v (.int .i64 (z1))),.d (.v (.int .i64 (z2))),.d (.v (.bool (z3))),.d (.v (.int .i64 (z4)))])) e33 e34 e35 e36
      exact fin0 (.inr Y) (.cell (cells:=[.d (.v (.int .i64 (((twoV op a b).iv).lo))),.d (.v (.int .i64 (((twoV op a b).iv).hi))),.d (.v (.bool ((twoV op a b).live))),.d (.v (.int .i64 ((twoV op a b).alarms)))]) Y hc37 t36 Y Y .nil) (.dd (.dd (.dd (.dd .nil)))) Y
     ·have c4:=(by simpa using c4:¬ (op=12))
      refine .seq<|.rs fun k38=>.bi Y<|.as Y<|.z ?_
      refine .cond (t:=op == 20) Y (fun c5=>?_) (fun c5=>?_)
      ·have c5:=(by simpa using c5:op=20)
       refine .seq<|.rs fun k39=>.fp t34 t2 Y<|.ld t2 Y (.ptr _ _ _ _ _ Y) Y<|.fp t34 t2 Y<|.ld t2 Y (.ptr _ _ _ _ _ Y) Y<|.g (fun _ τ=>⟨_,.min (.no Y) Y Y Y Y (min_of _ _) Y τ⟩)<|.fp t34 t2 Y<|.ld t2 Y (.ptr _ _ _ _ _ Y) Y ?_
       refine .fp t34 t2 Y<|.ld t2 Y (.ptr _ _ _ _ _ Y) Y<|.g (fun _ τ=>⟨_,.min (.no Y) Y Y Y Y (min_of _ _) Y τ⟩)<|.g (fun _ τ=>⟨_,.build (.no Y) Y z34 Y p34 Y Y Y Y τ⟩)<|.c0 (c_live (Iv.mk (min a.lo b.lo) (min a.hi b.hi))) Y (.dd (.dd .nil)) (.own [46,0] (.own [46,1] (.own [46,2] (.own [46,3] .nil)))) Y<|.g (fun _ τ=>⟨_,.store (.no Y) Y t36 Y Y Y Y Y Y Y Y Y τ⟩)<|.z<|.ret ?_
       have h9:=Val.parts (two_20 (a:=a) (b:=b) c5)
       have e40:(((Val.mk (Iv.mk (min a.lo b.lo) (min a.hi b.hi)) true 0).iv).lo)=(((twoV op a b).iv).lo):=by with_reducible first | exact h9.1.1 | exact h9.1.2 | exact h9.2.1 | exact h9.2.2
       have e41:(((Val.mk (Iv.mk (min a.lo b.lo) (min a.hi b.hi)) true 0).iv).hi)=(((twoV op a b).iv).hi):=by with_reducible first | exact h9.1.1 | exact h9.1.2 | exact h9.2.1 | exact h9.2.2
       have e42:((Val.mk (Iv.mk (min a.lo b.lo) (min a.hi b.hi)) true 0).live)=((twoV op a b).live):=by with_reducible first | exact h9.1.1 | exact h9.1.2 | exact h9.2.1 | exact h9.2.2
       have e43:((Val.mk (Iv.mk (min a.lo b.lo) (min a.hi b.hi)) true 0).alarms)=((twoV op a b).alarms):=by with_reducible first | exact h9.1.1 | exact h9.1.2 | exact h9.2.1 | exact h9.2.2
       have hc44:=eq4 (fun z1 z2 z3 z4=>some (k1+1+1,k39+1+1+1+1+1+1+1+1+1+1+1+1,O.box [.d (.v (.int .i64 (z1))),.d (.v (.int .i64 (z2))),.d (.v (.bool (z3))),.d (.v (.int .i64 (z4)))])) e40 e41 e42 e43
       exact fin0 (.inr Y) (.cell (cells:=[.d (.v (.int .i64 (((twoV op a b).iv).lo))),.d (.v (.int .i64 (((twoV op a b).iv).hi))),.d (.v (.bool ((twoV op a b).live))),.d (.v (.int .i64 ((twoV op a b).alarms)))]) Y hc44 t36 Y Y .nil) (.dd (.dd (.dd (.dd .nil)))) Y
      ·have c5:=(by simpa using c5:¬ (op=20))
       refine .seq<|.rs fun k45=>.bi Y<|.as Y<|.z ?_
       refine .cond (t:=op == 21) Y (fun c6=>?_) (fun c6=>?_)
       ·have c6:=(by simpa using c6:op=21)
        refine .seq<|.rs fun k46=>.fp t34 t2 Y<|.ld t2 Y (.ptr _ _ _ _ _ Y) Y<|.fp t34 t2 Y<|.ld t2 Y (.ptr _ _ _ _ _ Y) Y<|.g (fun _ τ=>⟨_,.max (.no Y) Y Y Y Y (max_of _ _) Y τ⟩)<|.fp t34 t2 Y<|.ld t2 Y (.ptr _ _ _ _ _ Y) Y ?_
        refine .fp t34 t2 Y<|.ld t2 Y (.ptr _ _ _ _ _ Y) Y<|.g (fun _ τ=>⟨_,.max (.no Y) Y Y Y Y (max_of _ _) Y τ⟩)<|.g (fun _ τ=>⟨_,.build (.no Y) Y z34 Y p34 Y Y Y Y τ⟩)<|.c0 (c_live (Iv.mk (max a.lo b.lo) (max a.hi b.hi))) Y (.dd (.dd .nil)) (.own [60,0] (.own [60,1] (.own [60,2] (.own [60,3] .nil)))) Y<|.g (fun _ τ=>⟨_,.store (.no Y) Y t36 Y Y Y Y Y Y Y Y Y τ⟩)<|.z<|.ret ?_
        have h9:=Val.parts (two_21 (a:=a) (b:=b) c6)
        have e47:(((Val.mk (Iv.mk (max a.lo b.lo) (max a.hi b.hi)) true 0).iv).lo)=(((twoV op a b).iv).lo):=by with_reducible first | exact h9.1.1 | exact h9.1.2 | exact h9.2.1 | exact h9.2.2
        have e48:(((Val.mk (Iv.mk (max a.lo b.lo) (max a.hi b.hi)) true 0).iv).hi)=(((twoV op a b).iv).hi):=by with_reducible first | exact h9.1.1 | exact h9.1.2 | exact h9.2.1 | exact h9.2.2
        have e49:((Val.mk (Iv.mk (max a.lo b.lo) (max a.hi b.hi)) true 0).live)=((twoV op a b).live):=by with_reducible first | exact h9.1.1 | exact h9.1.2 | exact h9.2.1 | exact h9.2.2
        have e50:((Val.mk (Iv.mk (max a.lo b.lo) (max a.hi b.hi)) true 0).alarms)=((twoV op a b).alarms):=by with_reducible first | exact h9.1.1 | exact h9.1.2 | exact h9.2.1 | exact h9.2.2
        have hc51:=eq4 (fun z1 z2 z3 z4=>some (k1+1+1,k46+1+1+1+1+1+1+1+1+1+1+1+1,O.box [.d (.v (.int .i64 (z1))),.d (.v (.int .i64 (z2))),.d (.v (.bool (z3))),.d (.v (.int .i64 (z4)))])) e47 e48 e49 e50
        exact fin0 (.inr Y) (.cell (cells:=[.d (.v (.int .i64 (((twoV op a b).iv).lo))),.d (.v (.int .i64 (((twoV op a b).iv).hi))),.d (.v (.bool ((twoV op a b).live))),.d (.v (.int .i64 ((twoV op a b).alarms)))]) Y hc51 t36 Y Y .nil) (.dd (.dd (.dd (.dd .nil)))) Y
       ·have c6:=(by simpa using c6:¬ (op=21))
        refine .skip<|.seq<|.rs fun k52=>.mv Y<|.lda t34 Y (.ptr _ _ _ _ _ Y) Y<|.lda t34 Y (.ptr _ _ _ _ _ Y) Y<|.c0 (c_IvCompare op a b) Y (.dd (.dd (.dd (.dd (.dd .nil))))) (.own [64,0] (.own [64,1] .nil)) Y<|.c0 (c_live (cmV op a b)) Y (.dd (.dd .nil)) (.own [65,0] (.own [65,1] (.own [65,2] (.own [65,3] .nil)))) Y<|.g (fun _ τ=>⟨_,.store (.no Y) Y t36 Y Y Y Y Y Y Y Y Y τ⟩) ?_
        refine .z<|.ret ?_
        have h9:=Val.eqs (two_c (a:=a) (b:=b) c0 c1 c2 c3 c4 c5 c6)
        have e53:(((Val.mk (cmV op a b) true 0).iv).lo)=(((twoV op a b).iv).lo):=by with_reducible first | exact h9.1.1 | exact h9.1.2 | exact h9.2.1 | exact h9.2.2
        have e54:(((Val.mk (cmV op a b) true 0).iv).hi)=(((twoV op a b).iv).hi):=by with_reducible first | exact h9.1.1 | exact h9.1.2 | exact h9.2.1 | exact h9.2.2
        have e55:((Val.mk (cmV op a b) true 0).live)=((twoV op a b).live):=by with_reducible first | exact h9.1.1 | exact h9.1.2 | exact h9.2.1 | exact h9.2.2
        have e56:((Val.mk (cmV op a b) true 0).alarms)=((twoV op a b).alarms):=by with_reducible first | exact h9.1.1 | exact h9.1.2 | exact h9.2.1 | exact h9.2.2
        have hc57:=eq4 (fun z1 z2 z3 z4=>some (k1+1+1,k52+1+1+1+1+1,O.box [.d (.v (.int .i64 (z1))),.d (.v (.int .i64 (z2))),.d (.v (.bool (z3))),.d (.v (.int .i64 (z4)))])) e53 e54 e55 e56
        exact fin0 (.inr Y) (.cell (cells:=[.d (.v (.int .i64 (((twoV op a b).iv).lo))),.d (.v (.int .i64 (((twoV op a b).iv).hi))),.d (.v (.bool ((twoV op a b).live))),.d (.v (.int .i64 ((twoV op a b).alarms)))]) Y hc57 t36 Y Y .nil) (.dd (.dd (.dd (.dd .nil)))) Y
theorem c_l7Two (op:Int) (a:Iv) (b:Iv) (ha:FitI a) (hb:FitI b):Trip Tryz.prog 64 [(false,1),(true,2),(true,2)] ([.v (.int .i64 (op))]++Iv.c a++Iv.c b) [(true,4)] [.v (.int .i64 (((twoV op a b).iv).lo)),.v (.int .i64 (((twoV op a b).iv).hi)),.v (.bool ((twoV op a b).live)),.v (.int .i64 ((twoV op a b).alarms))] []:=by
 refine Trip.of Tryz.func64 (by decide) (c:=_) Y Y (Nat.le_of_ble_eq_true Y) Y (AftOk.nil _)<|.seq<|.rs fun k1=>.g (fun _ τ=>⟨_,.box (.no Y) Y Y Y Y Y τ⟩)<|.g (fun _ τ=>⟨_,.box (.no Y) Y Y Y Y Y τ⟩)<|.g (fun _ τ=>⟨_,.alloc (.no Y) Y z36 Y Y Y τ⟩)<|.z<|.seq<|.seq ?_
 refine .rs fun k2=>.mv Y<|.z<|.block<|.seq<|.rs fun k3=>.bi Y<|.as Y<|.z ?_
 refine .cond (t:=op == 8) Y (fun c0=>?_) (fun c0=>?_)
 ·have c0:=(by simpa using c0:op=8)
  refine .seq<|.rs fun k4=>.lda t34 Y (.ptr _ _ _ _ _ Y) Y<|.lda t34 Y (.ptr _ _ _ _ _ Y) Y<|.c0 (c_sIvAdd a b (by assumption) (by assumption)) Y (.dd (.dd (.dd (.dd .nil)))) (.own [12,0] (.own [12,1] (.own [12,2] (.own [12,3] .nil)))) Y<|.g (fun _ τ=>⟨_,.store (.no Y) Y t36 Y Y Y Y Y Y Y Y Y τ⟩)<|.z<|.ret ?_
  have h9:=Val.eqs (two_8 (a:=a) (b:=b) c0)
  have e5:(((opV 43 a b).iv).lo)=(((twoV op a b).iv).lo):=by with_reducible first | exact h9.1.1 | exact h9.1.2 | exact h9.2.1 | exact h9.2.2
  have e6:(((opV 43 a b).iv).hi)=(((twoV op a b).iv).hi):=by with_reducible first | exact h9.1.1 | exact h9.1.2 | exact h9.2.1 | exact h9.2.2
  have e7:((opV 43 a b).live)=((twoV op a b).live):=by with_reducible first | exact h9.1.1 | exact h9.1.2 | exact h9.2.1 | exact h9.2.2
  have e8:((opV 43 a b).alarms)=((twoV op a b).alarms):=by with_reducible first | exact h9.1.1 | exact h9.1.2 | exact h9.2.1 | exact h9.2.2
  have hc9:=eq4 (fun z1 z2 z3 z4=>some (k1+1+1,k4+1+1+1,O.box [.d (.v (.int .i64 (z1))),.d (.v (.int .i64 (z2))),.d (.v (.bool (z3))),.d (.v (.int .i64 (z4)))])) e5 e6 e7 e8
  exact fin0 (.inr Y) (.cell (cells:=[.d (.v (.int .i64 (((twoV op a b).iv).lo))),.d (.v (.int .i64 (((twoV op a b).iv).hi))),.d (.v (.bool ((twoV op a b).live))),.d (.v (.int .i64 ((twoV op a b).alarms)))]) Y hc9 t36 Y Y .nil) (.dd (.dd (.dd (.dd .nil)))) Y
 ·have c0:=(by simpa using c0:¬ (op=8))
  refine .seq<|.rs fun k10=>.bi Y<|.as Y<|.z ?_
  refine .cond (t:=op == 9) Y (fun c1=>?_) (fun c1=>?_)
  ·have c1:=(by simpa using c1:op=9)
   refine .seq<|.rs fun k11=>.lda t34 Y (.ptr _ _ _ _ _ Y) Y<|.lda t34 Y (.ptr _ _ _ _ _ Y) Y<|.c0 (c_sIvSub a b (by assumption) (by assumption)) Y (.dd (.dd (.dd (.dd .nil)))) (.own [17,0] (.own [17,1] (.own [17,2] (.own [17,3] .nil)))) Y<|.g (fun _ τ=>⟨_,.store (.no Y) Y t36 Y Y Y Y Y Y Y Y Y τ⟩)<|.z<|.ret ?_
   have h9:=Val.eqs (two_9 (a:=a) (b:=b) c1)
   have e12:(((opV 45 a b).iv).lo)=(((twoV op a b).iv).lo):=by with_reducible first | exact h9.1.1 | exact h9.1.2 | exact h9.2.1 | exact h9.2.2
   have e13:(((opV 45 a b).iv).hi)=(((twoV op a b).iv).hi):=by with_reducible first | exact h9.1.1 | exact h9.1.2 | exact h9.2.1 | exact h9.2.2
   have e14:((opV 45 a b).live)=((twoV op a b).live):=by with_reducible first | exact h9.1.1 | exact h9.1.2 | exact h9.2.1 | exact h9.2.2
   have e15:((opV 45 a b).alarms)=((twoV op a b).alarms):=by with_reducible first | exact h9.1.1 | exact h9.1.2 | exact h9.2.1 | exact h9.2.2
   have hc16:=eq4 (fun z1 z2 z3 z4=>some (k1+1+1,k11+1+1+1,O.box [.d (.v (.int .i64 (z1))),.d (.v (.int .i64 (z2))),.d (.v (.bool (z3))),.d (.v (.int .i64 (z4)))])) e12 e13 e14 e15
   exact fin0 (.inr Y) (.cell (cells:=[.d (.v (.int .i64 (((twoV op a b).iv).lo))),.d (.v (.int .i64 (((twoV op a b).iv).hi))),.d (.v (.bool ((twoV op a b).live))),.d (.v (.int .i64 ((twoV op a b).alarms)))]) Y hc16 t36 Y Y .nil) (.dd (.dd (.dd (.dd .nil)))) Y
  ·have c1:=(by simpa using c1:¬ (op=9))
   refine .seq<|.rs fun k17=>.bi Y<|.as Y<|.z ?_
   refine .cond (t:=op == 10) Y (fun c2=>?_) (fun c2=>?_)
   ·have c2:=(by simpa using c2:op=10)
    refine .seq<|.rs fun k18=>.lda t34 Y (.ptr _ _ _ _ _ Y) Y<|.lda t34 Y (.ptr _ _ _ _ _ Y) Y<|.c0 (c_sIvMul a b (by assumption) (by assumption)) Y (.dd (.dd (.dd (.dd .nil)))) (.own [22,0] (.own [22,1] (.own [22,2] (.own [22,3] .nil)))) Y<|.g (fun _ τ=>⟨_,.store (.no Y) Y t36 Y Y Y Y Y Y Y Y Y τ⟩)<|.z<|.ret ?_
    have h9:=Val.eqs (two_10 (a:=a) (b:=b) c2)
    have e19:(((opV 42 a b).iv).lo)=(((twoV op a b).iv).lo):=by with_reducible first | exact h9.1.1 | exact h9.1.2 | exact h9.2.1 | exact h9.2.2
    have e20:(((opV 42 a b).iv).hi)=(((twoV op a b).iv).hi):=by with_reducible first | exact h9.1.1 | exact h9.1.2 | exact h9.2.1 | exact h9.2.2
    have e21:((opV 42 a b).live)=((twoV op a b).live):=by with_reducible first | exact h9.1.1 | exact h9.1.2 | exact h9.2.1 | exact h9.2.2
    have e22:((opV 42 a b).alarms)=((twoV op a b).alarms):=by with_reducible first | exact h9.1.1 | exact h9.1.2 | exact h9.2.1 | exact h9.2.2
    have hc23:=eq4 (fun z1 z2 z3 z4=>some (k1+1+1,k18+1+1+1,O.box [.d (.v (.int .i64 (z1))),.d (.v (.int .i64 (z2))),.d (.v (.bool (z3))),.d (.v (.int .i64 (z4)))])) e19 e20 e21 e22
    exact fin0 (.inr Y) (.cell (cells:=[.d (.v (.int .i64 (((twoV op a b).iv).lo))),.d (.v (.int .i64 (((twoV op a b).iv).hi))),.d (.v (.bool ((twoV op a b).live))),.d (.v (.int .i64 ((twoV op a b).alarms)))]) Y hc23 t36 Y Y .nil) (.dd (.dd (.dd (.dd .nil)))) Y
   ·have c2:=(by simpa using c2:¬ (op=10))
    refine .seq<|.rs fun k24=>.bi Y<|.as Y<|.z ?_
    refine .cond (t:=op == 11) Y (fun c3=>?_) (fun c3=>?_)
    ·have c3:=(by simpa using c3:op=11)
     refine .seq<|.rs fun k25=>.lda t34 Y (.ptr _ _ _ _ _ Y) Y<|.lda t34 Y (.ptr _ _ _ _ _ Y) Y<|.c0 (c_sIvQuo a b (by assumption) (by assumption)) Y (.dd (.dd (.dd (.dd .nil)))) (.own [27,0] (.own [27,1] (.own [27,2] (.own [27,3] .nil)))) Y<|.g (fun _ τ=>⟨_,.store (.no Y) Y t36 Y Y Y Y Y Y Y Y Y τ⟩)<|.z<|.ret ?_
     have h9:=Val.eqs (two_11 (a:=a) (b:=b) c3)
     have e26:(((quoV a b).iv).lo)=(((twoV op a b).iv).lo):=by with_reducible first | exact h9.1.1 | exact h9.1.2 | exact h9.2.1 | exact h9.2.2
     have e27:(((quoV a b).iv).hi)=(((twoV op a b).iv).hi):=by with_reducible first | exact h9.1.1 | exact h9.1.2 | exact h9.2.1 | exact h9.2.2
     have e28:((quoV a b).live)=((twoV op a b).live):=by with_reducible first | exact h9.1.1 | exact h9.1.2 | exact h9.2.1 | exact h9.2.2
     have e29:((quoV a b).alarms)=((twoV op a b).alarms):=by with_reducible first | exact h9.1.1 | exact h9.1.2 | exact h9.2.1 | exact h9.2.2
     have hc30:=eq4 (fun z1 z2 z3 z4=>some (k1+1+1,k25+1+1+1,O.box [.d (.v (.int .i64 (z1))),.d (.v (.int .i64 (z2))),.d (.v (.bool (z3))),.d (.v (.int .i64 (z4)))])) e26 e27 e28 e29
     exact fin0 (.inr Y) (.cell (cells:=[.d (.v (.int .i64 (((twoV op a b).iv).lo))),.d (.v (.int .i64 (((twoV op a b).iv).hi))),.d (.v (.bool ((twoV op a b).live))),.d (.v (.int .i64 ((twoV op a b).alarms)))]) Y hc30 t36 Y Y .nil) (.dd (.dd (.dd (.dd .nil)))) Y
    ·have c3:=(by simpa using c3:¬ (op=11))
     refine .seq<|.rs fun k31=>.bi Y<|.as Y<|.z ?_
     refine .cond (t:=op == 12) Y (fun c4=>?_) (fun c4=>?_)
     ·have c4:=(by simpa using c4:op=12)
      refine .seq<|.rs fun k32=>.lda t34 Y (.ptr _ _ _ _ _ Y) Y<|.lda t34 Y (.ptr _ _ _ _ _ Y) Y<|.c0 (c_sIvRem a b (by assumption) (by assumption)) Y (.dd (.dd (.dd (.dd .nil)))) (.own [32,0] (.own [32,1] (.own [32,2] (.own [32,3] .nil)))) Y<|.g (fun _ τ=>⟨_,.store (.no Y) Y t36 Y Y Y Y Y Y Y Y Y τ⟩)<|.z<|.ret ?_
      have h9:=Val.eqs (two_12 (a:=a) (b:=b) c4)
      have e33:(((remV a b).iv).lo)=(((twoV op a b).iv).lo):=by with_reducible first | exact h9.1.1 | exact h9.1.2 | exact h9.2.1 | exact h9.2.2
      have e34:(((remV a b).iv).hi)=(((twoV op a b).iv).hi):=by with_reducible first | exact h9.1.1 | exact h9.1.2 | exact h9.2.1 | exact h9.2.2
      have e35:((remV a b).live)=((twoV op a b).live):=by with_reducible first | exact h9.1.1 | exact h9.1.2 | exact h9.2.1 | exact h9.2.2
      have e36:((remV a b).alarms)=((twoV op a b).alarms):=by with_reducible first | exact h9.1.1 | exact h9.1.2 | exact h9.2.1 | exact h9.2.2
      have hc37:=eq4 (fun z1 z2 z3 z4=>some (k1+1+1,k32+1+1+1,O.box [.d (.v (.int .i64 (z1))),.d (.v (.int .i64 (z2))),.d (.v (.bool (z3))),.d (.v (.int .i64 (z4)))])) e33 e34 e35 e36
      exact fin0 (.inr Y) (.cell (cells:=[.d (.v (.int .i64 (((twoV op a b).iv).lo))),.d (.v (.int .i64 (((twoV op a b).iv).hi))),.d (.v (.bool ((twoV op a b).live))),.d (.v (.int .i64 ((twoV op a b).alarms)))]) Y hc37 t36 Y Y .nil) (.dd (.dd (.dd (.dd .nil)))) Y
     ·have c4:=(by simpa using c4:¬ (op=12))
      refine .seq<|.rs fun k38=>.bi Y<|.as Y<|.z ?_
      refine .cond (t:=op == 20) Y (fun c5=>?_) (fun c5=>?_)
      ·have c5:=(by simpa using c5:op=20)
       refine .seq<|.rs fun k39=>.fp t34 t2 Y<|.ld t2 Y (.ptr _ _ _ _ _ Y) Y<|.fp t34 t2 Y<|.ld t2 Y (.ptr _ _ _ _ _ Y) Y<|.g (fun _ τ=>⟨_,.min (.no Y) Y Y Y Y (min_of _ _) Y τ⟩)<|.fp t34 t2 Y<|.ld t2 Y (.ptr _ _ _ _ _ Y) Y ?_
       refine .fp t34 t2 Y<|.ld t2 Y (.ptr _ _ _ _ _ Y) Y<|.g (fun _ τ=>⟨_,.min (.no Y) Y Y Y Y (min_of _ _) Y τ⟩)<|.g (fun _ τ=>⟨_,.build (.no Y) Y z34 Y p34 Y Y Y Y τ⟩)<|.c0 (c_l7Know (Iv.mk (min a.lo b.lo) (min a.hi b.hi))) Y (.dd (.dd .nil)) (.own [46,0] (.own [46,1] (.own [46,2] (.own [46,3] .nil)))) Y<|.g (fun _ τ=>⟨_,.store (.no Y) Y t36 Y Y Y Y Y Y Y Y Y τ⟩)<|.z<|.ret ?_
       have h9:=Val.parts (two_20 (a:=a) (b:=b) c5)
       have e40:(((Val.mk (Iv.mk (min a.lo b.lo) (min a.hi b.hi)) true 0).iv).lo)=(((twoV op a b).iv).lo):=by with_reducible first | exact h9.1.1 | exact h9.1.2 | exact h9.2.1 | exact h9.2.2
       have e41:(((Val.mk (Iv.mk (min a.lo b.lo) (min a.hi b.hi)) true 0).iv).hi)=(((twoV op a b).iv).hi):=by with_reducible first | exact h9.1.1 | exact h9.1.2 | exact h9.2.1 | exact h9.2.2
       have e42:((Val.mk (Iv.mk (min a.lo b.lo) (min a.hi b.hi)) true 0).live)=((twoV op a b).live):=by with_reducible first | exact h9.1.1 | exact h9.1.2 | exact h9.2.1 | exact h9.2.2
       have e43:((Val.mk (Iv.mk (min a.lo b.lo) (min a.hi b.hi)) true 0).alarms)=((twoV op a b).alarms):=by with_reducible first | exact h9.1.1 | exact h9.1.2 | exact h9.2.1 | exact h9.2.2
       have hc44:=eq4 (fun z1 z2 z3 z4=>some (k1+1+1,k39+1+1+1+1+1+1+1+1+1+1+1+1,O.box [.d (.v (.int .i64 (z1))),.d (.v (.int .i64 (z2))),.d (.v (.bool (z3))),.d (.v (.int .i64 (z4)))])) e40 e41 e42 e43
       exact fin0 (.inr Y) (.cell (cells:=[.d (.v (.int .i64 (((twoV op a b).iv).lo))),.d (.v (.int .i64 (((twoV op a b).iv).hi))),.d (.v (.bool ((twoV op a b).live))),.d (.v (.int .i64 ((twoV op a b).alarms)))]) Y hc44 t36 Y Y .nil) (.dd (.dd (.dd (.dd .nil)))) Y
      ·have c5:=(by simpa using c5:¬ (op=20))
       refine .seq<|.rs fun k45=>.bi Y<|.as Y<|.z ?_
       refine .cond (t:=op == 21) Y (fun c6=>?_) (fun c6=>?_)
       ·have c6:=(by simpa using c6:op=21)
        refine .seq<|.rs fun k46=>.fp t34 t2 Y<|.ld t2 Y (.ptr _ _ _ _ _ Y) Y<|.fp t34 t2 Y<|.ld t2 Y (.ptr _ _ _ _ _ Y) Y<|.g (fun _ τ=>⟨_,.max (.no Y) Y Y Y Y (max_of _ _) Y τ⟩)<|.fp t34 t2 Y<|.ld t2 Y (.ptr _ _ _ _ _ Y) Y ?_
        refine .fp t34 t2 Y<|.ld t2 Y (.ptr _ _ _ _ _ Y) Y<|.g (fun _ τ=>⟨_,.max (.no Y) Y Y Y Y (max_of _ _) Y τ⟩)<|.g (fun _ τ=>⟨_,.build (.no Y) Y z34 Y p34 Y Y Y Y τ⟩)<|.c0 (c_l7Know (Iv.mk (max a.lo b.lo) (max a.hi b.hi))) Y (.dd (.dd .nil)) (.own [60,0] (.own [60,1] (.own [60,2] (.own [60,3] .nil)))) Y<|.g (fun _ τ=>⟨_,.store (.no Y) Y t36 Y Y Y Y Y Y Y Y Y τ⟩)<|.z<|.ret ?_
        have h9:=Val.parts (two_21 (a:=a) (b:=b) c6)
        have e47:(((Val.mk (Iv.mk (max a.lo b.lo) (max a.hi b.hi)) true 0).iv).lo)=(((twoV op a b).iv).lo):=by with_reducible first | exact h9.1.1 | exact h9.1.2 | exact h9.2.1 | exact h9.2.2
        have e48:(((Val.mk (Iv.mk (max a.lo b.lo) (max a.hi b.hi)) true 0).iv).hi)=(((twoV op a b).iv).hi):=by with_reducible first | exact h9.1.1 | exact h9.1.2 | exact h9.2.1 | exact h9.2.2
        have e49:((Val.mk (Iv.mk (max a.lo b.lo) (max a.hi b.hi)) true 0).live)=((twoV op a b).live):=by with_reducible first | exact h9.1.1 | exact h9.1.2 | exact h9.2.1 | exact h9.2.2
        have e50:((Val.mk (Iv.mk (max a.lo b.lo) (max a.hi b.hi)) true 0).alarms)=((twoV op a b).alarms):=by with_reducible first | exact h9.1.1 | exact h9.1.2 | exact h9.2.1 | exact h9.2.2
        have hc51:=eq4 (fun z1 z2 z3 z4=>some (k1+1+1,k46+1+1+1+1+1+1+1+1+1+1+1+1,O.box [.d (.v (.int .i64 (z1))),.d (.v (.int .i64 (z2))),.d (.v (.bool (z3))),.d (.v (.int .i64 (z4)))])) e47 e48 e49 e50
        exact fin0 (.inr Y) (.cell (cells:=[.d (.v (.int .i64 (((twoV op a b).iv).lo))),.d (.v (.int .i64 (((twoV op a b).iv).hi))),.d (.v (.bool ((twoV op a b).live))),.d (.v (.int .i64 ((twoV op a b).alarms)))]) Y hc51 t36 Y Y .nil) (.dd (.dd (.dd (.dd .nil)))) Y
       ·have c6:=(by simpa using c6:¬ (op=21))
        refine .skip<|.seq<|.rs fun k52=>.mv Y<|.lda t34 Y (.ptr _ _ _ _ _ Y) Y<|.lda t34 Y (.ptr _ _ _ _ _ Y) Y<|.c0 (c_sIvCompare op a b) Y (.dd (.dd (.dd (.dd (.dd .nil))))) (.own [64,0] (.own [64,1] .nil)) Y<|.c0 (c_l7Know (cmV op a b)) Y (.dd (.dd .nil)) (.own [65,0] (.own [65,1] (.own [65,2] (.own [65,3] .nil)))) Y<|.g (fun _ τ=>⟨_,.store (.no Y) Y t36 Y Y Y Y Y Y Y Y Y τ⟩) ?_
        refine .z<|.ret ?_
        have h9:=Val.eqs (two_c (a:=a) (b:=b) c0 c1 c2 c3 c4 c5 c6)
        have e53:(((Val.mk (cmV op a b) true 0).iv).lo)=(((twoV op a b).iv).lo):=by with_reducible first | exact h9.1.1 | exact h9.1.2 | exact h9.2.1 | exact h9.2.2
        have e54:(((Val.mk (cmV op a b) true 0).iv).hi)=(((twoV op a b).iv).hi):=by with_reducible first | exact h9.1.1 | exact h9.1.2 | exact h9.2.1 | exact h9.2.2
        have e55:((Val.mk (cmV op a b) true 0).live)=((twoV op a b).live):=by with_reducible first | exact h9.1.1 | exact h9.1.2 | exact h9.2.1 | exact h9.2.2
        have e56:((Val.mk (cmV op a b) true 0).alarms)=((twoV op a b).alarms):=by with_reducible first | exact h9.1.1 | exact h9.1.2 | exact h9.2.1 | exact h9.2.2
        have hc57:=eq4 (fun z1 z2 z3 z4=>some (k1+1+1,k52+1+1+1+1+1,O.box [.d (.v (.int .i64 (z1))),.d (.v (.int .i64 (z2))),.d (.v (.bool (z3))),.d (.v (.int .i64 (z4)))])) e53 e54 e55 e56
        exact fin0 (.inr Y) (.cell (cells:=[.d (.v (.int .i64 (((twoV op a b).iv).lo))),.d (.v (.int .i64 (((twoV op a b).iv).hi))),.d (.v (.bool ((twoV op a b).live))),.d (.v (.int .i64 ((twoV op a b).alarms)))]) Y hc57 t36 Y Y .nil) (.dd (.dd (.dd (.dd .nil)))) Y
end Go.Proofs

namespace Go.Proofs
open Go Go.Proofs Go.Ev

def i58:TI:=⟨.int .u64,1,8,[.int .u64 0]⟩
theorem t58:TyOk Tryz.prog 58 i58:=⟨Tryz.underlying58,by kernel_rfl⟩
theorem z58:ZOk Tryz.prog 58 i58:=⟨t58,rfl⟩
theorem c_l7One (d:Decl) (t:Tok) (e:Env) (leaf:Int) (hv:t.op=2→0≤t.n∧t.n < e.ints.length) (hg:t.op=3→0≤t.n∧t.n≤9223372036854775807) (hz:t.op=5→t.n=0) (ho:t.op=1∨t.op=2∨t.op=3∨t.op=4∨t.op=5):Trip Tryz.prog 68 [(true,3),(true,2),(true,3),(false,1)] (Decl.c40 d++Tok.c t++Env.c46 e++[.v (.int .i64 (leaf))]) [(true,4)] [.v (.int .i64 (((Val.mk (oneV e leaf t) true 0).iv).lo)),.v (.int .i64 (((Val.mk (oneV e leaf t) true 0).iv).hi)),.v (.bool ((Val.mk (oneV e leaf t) true 0).live)),.v (.int .i64 ((Val.mk (oneV e leaf t) true 0).alarms))] []:=by
 refine Trip.of Tryz.func68 (by decide) (c:=_) Y Y (Nat.le_of_ble_eq_true Y) Y (AftOk.nil _)<|.sla (t:=0) 0 Y Y fun hs1l=>.sla (t:=0) 1 Y Y fun hs2l=>.sla (t:=0) 2 Y Y fun hs3l=>.sla (t:=2) 1 Y Y fun hs4l=>.sla (t:=2) 2 Y Y fun hs5l=>.seq<|.rs fun k6=>.g (fun _ τ=>⟨_,.box (.no Y) Y Y Y Y Y τ⟩) ?_
 refine .g (fun _ τ=>⟨_,.box (.no Y) Y Y Y Y Y τ⟩)<|.g (fun _ τ=>⟨_,.box (.no Y) Y Y Y Y Y τ⟩)<|.g (fun _ τ=>⟨_,.alloc (.no Y) Y z36 Y Y Y τ⟩)<|.z<|.seq<|.rs fun k7=>.fp t77 t2 Y<|.ld t2 Y (.ptr _ _ _ _ _ Y) Y<|.as Y ?_
 refine .z<|.seq<|.seq<|.rs fun k8=>.fp t77 t2 Y<|.ld t2 Y (.ptr _ _ _ _ _ Y) Y<|.z<|.block<|.seq ?_
 refine .rs fun k9=>.bi Y<|.as Y<|.z ?_
 refine .cond (t:=t.op == 2) Y (fun c0=>?_) (fun c0=>?_)
 ·have c0:=(by simpa using c0:t.op=2)
  refine .seq<|.rs fun k10=>.fp t46 t44 Y<|.ld t44 Y (.ptr _ _ _ _ _ Y) Y<|.fp t77 t2 Y<|.ld t2 Y (.ptr _ _ _ _ _ Y) Y<|.g (fun _ τ=>⟨_,.indexAddr (.no Y) Y ((t.n).toNat) t44 Y t34 Y Y Y (.d _ _) Y Y (by omega) (map_get (by omega)) Y Y τ⟩)<|.lda t34 Y (.d _) Y<|.c0 (c_l7Know (e.ints.getD ((t.n).toNat) default)) Y (.dd (.dd .nil)) (.own [22,0] (.own [22,1] (.own [22,2] (.own [22,3] .nil)))) Y ?_
  refine .g (fun _ τ=>⟨_,.store (.no Y) Y t36 Y Y Y Y Y Y Y Y Y τ⟩)<|.z<|.ret ?_
  have e11:(((Val.mk (e.ints.getD ((t.n).toNat) default) true 0).iv).lo)=(((Val.mk (oneV e leaf t) true 0).iv).lo):=by first | rfl | with_reducible exact (Iv.eqs (one_2 c0)).1 | with_reducible exact (Iv.eqs (one_2 c0)).2
  have e12:(((Val.mk (e.ints.getD ((t.n).toNat) default) true 0).iv).hi)=(((Val.mk (oneV e leaf t) true 0).iv).hi):=by first | rfl | with_reducible exact (Iv.eqs (one_2 c0)).1 | with_reducible exact (Iv.eqs (one_2 c0)).2
  have e13:((Val.mk (e.ints.getD ((t.n).toNat) default) true 0).live)=((Val.mk (oneV e leaf t) true 0).live):=by first | rfl | with_reducible exact (Iv.eqs (one_2 c0)).1 | with_reducible exact (Iv.eqs (one_2 c0)).2
  have e14:((Val.mk (e.ints.getD ((t.n).toNat) default) true 0).alarms)=((Val.mk (oneV e leaf t) true 0).alarms):=by first | rfl | with_reducible exact (Iv.eqs (one_2 c0)).1 | with_reducible exact (Iv.eqs (one_2 c0)).2
  have hc15:=eq4 (fun z1 z2 z3 z4=>some (k6+1+1+1,k10+1+1+1+1+1+1+1,O.box [.d (.v (.int .i64 (z1))),.d (.v (.int .i64 (z2))),.d (.v (.bool (z3))),.d (.v (.int .i64 (z4)))])) e11 e12 e13 e14
  exact fin0 (.inr Y) (.cell (cells:=[.d (.v (.int .i64 (((Val.mk (oneV e leaf t) true 0).iv).lo))),.d (.v (.int .i64 (((Val.mk (oneV e leaf t) true 0).iv).hi))),.d (.v (.bool ((Val.mk (oneV e leaf t) true 0).live))),.d (.v (.int .i64 ((Val.mk (oneV e leaf t) true 0).alarms)))]) Y hc15 t36 Y Y .nil) (.dd (.dd (.dd (.dd .nil)))) Y
 ·have c0:=(by simpa using c0:¬ (t.op=2))
  refine .seq<|.rs fun k16=>.bi Y<|.as Y<|.z ?_
  refine .cond (t:=t.op == 3) Y (fun c1=>?_) (fun c1=>?_)
  ·have c1:=(by simpa using c1:t.op=3)
   refine .rs fun k17=>.mv Y<|.fp t77 t2 Y<|.ld t2 Y (.ptr _ _ _ _ _ Y) Y<|.g (fun _ τ=>⟨_,.conv (.no Y) Y t2 t58 Y Y Y Y Y Y τ⟩)<|.g (fun _ τ=>⟨_,.shr (.no Y) Y Y Y Y (by exact wrap_u64_nn _) Y Y τ⟩)<|.bi Y<|.as Y<|.z ?_
   refine .seq<|.rs fun k18=>.mv Y<|.mv Y<|.g (fun _ τ=>⟨_,.build (.no Y) Y z34 Y p34 Y Y Y Y τ⟩)<|.c0 (c_l7Know (Iv.mk (IntKind.wrap .i64 ((BitVec.ofInt (IntKind.bits .i64) (leaf.fdiv (2 ^ (min ((IntKind.wrap .u64 t.n)).toNat (IntKind.bits .i64)))) &&& BitVec.ofInt (IntKind.bits .i64) 1).toNat:Int)) (IntKind.wrap .i64 ((BitVec.ofInt (IntKind.bits .i64) (leaf.fdiv (2 ^ (min ((IntKind.wrap .u64 t.n)).toNat (IntKind.bits .i64)))) &&& BitVec.ofInt (IntKind.bits .i64) 1).toNat:Int)))) Y (.dd (.dd .nil)) (.own [36,0] (.own [36,1] (.own [36,2] (.own [36,3] .nil)))) Y<|.g (fun _ τ=>⟨_,.store (.no Y) Y t36 Y Y Y Y Y Y Y Y Y τ⟩)<|.z<|.ret ?_
   have e19:(((Val.mk (Iv.mk (IntKind.wrap .i64 ((BitVec.ofInt (IntKind.bits .i64) (leaf.fdiv (2 ^ (min ((IntKind.wrap .u64 t.n)).toNat (IntKind.bits .i64)))) &&& BitVec.ofInt (IntKind.bits .i64) 1).toNat:Int)) (IntKind.wrap .i64 ((BitVec.ofInt (IntKind.bits .i64) (leaf.fdiv (2 ^ (min ((IntKind.wrap .u64 t.n)).toNat (IntKind.bits .i64)))) &&& BitVec.ofInt (IntKind.bits .i64) 1).toNat:Int))) true 0).iv).lo)=(((Val.mk (oneV e leaf t) true 0).iv).lo):=by first | rfl | with_reducible exact (Iv.parts (one_3w c1 (hg c1))).1 | with_reducible exact (Iv.parts (one_3w c1 (hg c1))).2
   have e20:(((Val.mk (Iv.mk (IntKind.wrap .i64 ((BitVec.ofInt (IntKind.bits .i64) (leaf.fdiv (2 ^ (min ((IntKind.wrap .u64 t.n)).toNat (IntKind.bits .i64)))) &&& BitVec.ofInt (IntKind.bits .i64) 1).toNat:Int)) (IntKind.wrap .i64 ((BitVec.ofInt (IntKind.bits .i64) (leaf.fdiv (2 ^ (min ((IntKind.wrap .u64 t.n)).toNat (IntKind.bits .i64)))) &&& BitVec.ofInt (IntKind.bits .i64) 1).toNat:Int))) true 0).iv).hi)=(((Val.mk (oneV e leaf t) true 0).iv).hi):=by first | rfl | with_reducible exact (Iv.parts (one_3w c1 (hg c1))).1 | with_reducible exact (Iv.parts (one_3w c1 (hg c1))).2
   have e21:((Val.mk (Iv.mk (IntKind.wrap .i64 ((BitVec.ofInt (IntKind.bits .i64) (leaf.fdiv (2 ^ (min ((IntKind.wrap .u64 t.n)).toNat (IntKind.bits .i64)))) &&& BitVec.ofInt (IntKind.bits .i64) 1).toNat:Int)) (IntKind.wrap .i64 ((BitVec.ofInt (IntKind.bits .i64) (leaf.fdiv (2 ^ (min ((IntKind.wrap .u64 t.n)).toNat (IntKind.bits .i64)))) &&& BitVec.ofInt (IntKind.bits .i64) 1).toNat:Int))) true 0).live)=((Val.mk (oneV e leaf t) true 0).live):=by first | rfl | with_reducible exact (Iv.parts (one_3w c1 (hg c1))).1 | with_reducible exact (Iv.parts (one_3w c1 (hg c1))).2
   have e22:((Val.mk (Iv.mk (IntKind.wrap .i64 ((BitVec.ofInt (IntKind.bits .i64) (leaf.fdiv (2 ^ (min ((IntKind.wrap .u64 t.n)).toNat (IntKind.bits .i64)))) &&& BitVec.ofInt (IntKind.bits .i64) 1).toNat:Int)) (IntKind.wrap .i64 ((BitVec.ofInt (IntKind.bits .i64) (leaf.fdiv (2 ^ (min ((IntKind.wrap .u64 t.n)).toNat (IntKind.bits .i64)))) &&& BitVec.ofInt (IntKind.bits .i64) 1).toNat:Int))) true 0).alarms)=((Val.mk (oneV e leaf t) true 0).alarms):=by first | rfl | with_reducible exact (Iv.parts (one_3w c1 (hg c1))).1 | with_reducible exact (Iv.parts (one_3w c1 (hg c1))).2
   have hc23:=eq4 (fun z1 z2 z3 z4=>some (k6+1+1+1,k18+1+1+1+1,O.box [.d (.v (.int .i64 (z1))),.d (.v (.int .i64 (z2))),.d (.v (.bool (z3))),.d (.v (.int .i64 (z4)))])) e19 e20 e21 e22
   exact fin0 (.inr Y) (.cell (cells:=[.d (.v (.int .i64 (((Val.mk (oneV e leaf t) true 0).iv).lo))),.d (.v (.int .i64 (((Val.mk (oneV e leaf t) true 0).iv).hi))),.d (.v (.bool ((Val.mk (oneV e leaf t) true 0).live))),.d (.v (.int .i64 ((Val.mk (oneV e leaf t) true 0).alarms)))]) Y hc23 t36 Y Y .nil) (.dd (.dd (.dd (.dd .nil)))) Y
  ·have c1:=(by simpa using c1:¬ (t.op=3))
   refine .seq<|.rs fun k24=>.bi Y<|.as Y<|.z ?_
   refine .cond (t:=t.op == 4) Y (fun c2=>?_) (fun c2=>?_)
   ·have c2:=(by simpa using c2:t.op=4)
    refine .rs fun k25=>.as Y<|.z<|.seq<|.rs fun k26=>.mv Y<|.mv Y<|.g (fun _ τ=>⟨_,.build (.no Y) Y z34 Y p34 Y Y Y Y τ⟩)<|.c0 (c_l7Know (Iv.mk 1 1)) Y (.dd (.dd .nil)) (.own [36,0] (.own [36,1] (.own [36,2] (.own [36,3] .nil)))) Y ?_
    refine .g (fun _ τ=>⟨_,.store (.no Y) Y t36 Y Y Y Y Y Y Y Y Y τ⟩)<|.z<|.ret ?_
    have e27:(((Val.mk (Iv.mk 1 1) true 0).iv).lo)=(((Val.mk (oneV e leaf t) true 0).iv).lo):=by first | rfl | with_reducible exact (Iv.parts (one_t c2)).1 | with_reducible exact (Iv.parts (one_t c2)).2
    have e28:(((Val.mk (Iv.mk 1 1) true 0).iv).hi)=(((Val.mk (oneV e leaf t) true 0).iv).hi):=by first | rfl | with_reducible exact (Iv.parts (one_t c2)).1 | with_reducible exact (Iv.parts (one_t c2)).2
    have e29:((Val.mk (Iv.mk 1 1) true 0).live)=((Val.mk (oneV e leaf t) true 0).live):=by first | rfl | with_reducible exact (Iv.parts (one_t c2)).1 | with_reducible exact (Iv.parts (one_t c2)).2
    have e30:((Val.mk (Iv.mk 1 1) true 0).alarms)=((Val.mk (oneV e leaf t) true 0).alarms):=by first | rfl | with_reducible exact (Iv.parts (one_t c2)).1 | with_reducible exact (Iv.parts (one_t c2)).2
    have hc31:=eq4 (fun z1 z2 z3 z4=>some (k6+1+1+1,k26+1+1+1+1,O.box [.d (.v (.int .i64 (z1))),.d (.v (.int .i64 (z2))),.d (.v (.bool (z3))),.d (.v (.int .i64 (z4)))])) e27 e28 e29 e30
    exact fin0 (.inr Y) (.cell (cells:=[.d (.v (.int .i64 (((Val.mk (oneV e leaf t) true 0).iv).lo))),.d (.v (.int .i64 (((Val.mk (oneV e leaf t) true 0).iv).hi))),.d (.v (.bool ((Val.mk (oneV e leaf t) true 0).live))),.d (.v (.int .i64 ((Val.mk (oneV e leaf t) true 0).alarms)))]) Y hc31 t36 Y Y .nil) (.dd (.dd (.dd (.dd .nil)))) Y
   ·have c2:=(by simpa using c2:¬ (t.op=4))
    refine .skip<|.seq<|.rs fun k32=>.mv Y<|.mv Y<|.g (fun _ τ=>⟨_,.build (.no Y) Y z34 Y p34 Y Y Y Y τ⟩)<|.c0 (c_l7Know (Iv.mk t.n t.n)) Y (.dd (.dd .nil)) (.own [36,0] (.own [36,1] (.own [36,2] (.own [36,3] .nil)))) Y<|.g (fun _ τ=>⟨_,.store (.no Y) Y t36 Y Y Y Y Y Y Y Y Y τ⟩)<|.z ?_
    refine .ret ?_
    have e33:(((Val.mk (Iv.mk t.n t.n) true 0).iv).lo)=(((Val.mk (oneV e leaf t) true 0).iv).lo):=by first | rfl | with_reducible exact (Iv.parts (one_d c0 c1 c2 (by omega) hz)).1 | with_reducible exact (Iv.parts (one_d c0 c1 c2 (by omega) hz)).2
    have e34:(((Val.mk (Iv.mk t.n t.n) true 0).iv).hi)=(((Val.mk (oneV e leaf t) true 0).iv).hi):=by first | rfl | with_reducible exact (Iv.parts (one_d c0 c1 c2 (by omega) hz)).1 | with_reducible exact (Iv.parts (one_d c0 c1 c2 (by omega) hz)).2
    have e35:((Val.mk (Iv.mk t.n t.n) true 0).live)=((Val.mk (oneV e leaf t) true 0).live):=by first | rfl | with_reducible exact (Iv.parts (one_d c0 c1 c2 (by omega) hz)).1 | with_reducible exact (Iv.parts (one_d c0 c1 c2 (by omega) hz)).2
    have e36:((Val.mk (Iv.mk t.n t.n) true 0).alarms)=((Val.mk (oneV e leaf t) true 0).alarms):=by first | rfl | with_reducible exact (Iv.parts (one_d c0 c1 c2 (by omega) hz)).1 | with_reducible exact (Iv.parts (one_d c0 c1 c2 (by omega) hz)).2
    have hc37:=eq4 (fun z1 z2 z3 z4=>some (k6+1+1+1,k32+1+1+1+1,O.box [.d (.v (.int .i64 (z1))),.d (.v (.int .i64 (z2))),.d (.v (.bool (z3))),.d (.v (.int .i64 (z4)))])) e33 e34 e35 e36
    exact fin0 (.inr Y) (.cell (cells:=[.d (.v (.int .i64 (((Val.mk (oneV e leaf t) true 0).iv).lo))),.d (.v (.int .i64 (((Val.mk (oneV e leaf t) true 0).iv).hi))),.d (.v (.bool ((Val.mk (oneV e leaf t) true 0).live))),.d (.v (.int .i64 ((Val.mk (oneV e leaf t) true 0).alarms)))]) Y hc37 t36 Y Y .nil) (.dd (.dd (.dd (.dd .nil)))) Y
theorem c_l7Leaf (d:Decl) (leaf:Int):Trip Tryz.prog 28 [(true,3),(false,1)] (Decl.c40 d++[.v (.int .i64 (leaf))]) [(false,1)] [.v (.bool (inR leaf 0 (IntKind.wrap .i64 (leavesOf d - 1))))] []:=by
 refine Trip.of Tryz.func28 (by decide) (c:=_) Y Y (Nat.le_of_ble_eq_true Y) Y (AftOk.nil _)<|.sla (t:=0) 0 Y Y fun hs1l=>.sla (t:=0) 1 Y Y fun hs2l=>.sla (t:=0) 2 Y Y fun hs3l=>.seq<|.rs fun k4=>.g (fun _ τ=>⟨_,.box (.no Y) Y Y Y Y Y τ⟩)<|.as Y<|.z ?_
 refine .seq<|.rs fun k5=>.mv Y<|.fp t40 t22 Y<|.ld t22 Y (.ptr _ _ _ _ _ Y) Y<|.g (fun _ τ=>⟨_,.len (.no Y) Y (z:=(d.flags.length:Int)) t22 Y Y Y (.d _ _) (map_len _ _) Y τ⟩)<|.g (fun _ τ=>⟨_,.conv (.no Y) Y t3 t58 Y Y Y Y (wrap_u64 (by omega) (by omega)) Y τ⟩)<|.g (fun _ τ=>⟨_,.shl (.no Y) Y Y Y Y (by omega) Y Y τ⟩)<|.bi Y ?_
 refine .c0 (c_l1In leaf 0 (IntKind.wrap .i64 ((IntKind.wrap .i64 (1 * 2 ^ (min ((d.flags.length:Int)).toNat (IntKind.bits .i64)))) - 1))) Y (.dd (.dd (.dd .nil))) (.own [12,0] .nil) Y<|.as Y<|.z<|.ret ?_
 exact fin0 (.inr Y) (.one (svB (show (inR leaf 0 (IntKind.wrap .i64 ((IntKind.wrap .i64 (1 * 2 ^ (min ((d.flags.length:Int)).toNat (IntKind.bits .i64)))) - 1)))=(inR leaf 0 (IntKind.wrap .i64 (leavesOf d - 1))) by rfl)) .nil) (.dd .nil) Y
theorem c_bisLive (b:Bnd) (hs:∀ x∈Decl.names b.d,x.size≤9223372036854775807) (hb:b.d.vars.length≤1048576∧b.d.flags.length≤1048576∧b.d.arrays.length≤1048576):Trip Tryz.prog 34 [(true,7)] (Bnd.c82 b) [(false,1)] [.v (.bool (vaL b.d b.e b.leaf))] []:=by
 refine Trip.of Tryz.func34 (by decide) (c:=_) Y Y (Nat.le_of_ble_eq_true Y) Y (AftOk.nil _)<|.sla (t:=0) 0 Y Y fun hs1l=>.sla (t:=0) 1 Y Y fun hs2l=>.sla (t:=0) 2 Y Y fun hs3l=>.sla (t:=0) 4 Y Y fun hs4l=>.sla (t:=0) 5 Y Y fun hs5l=>.seq<|.rs fun k6=>.g (fun _ τ=>⟨_,.box (.no Y) Y Y Y Y Y τ⟩) ?_
 refine .as Y<|.z<|.seq ?_
 refine .regD (X:=Unit) (by kernel_rfl) (fun ζ=>.of [(2,.one (.d (.v (.bool (((Decl.ok b.d&&Env.okIn b.d b.e&&b.e.live)&&inR b.leaf 0 (IntKind.wrap .i64 ((leavesOf b.d) - 1))))))))] []) [⟨[1],some 3,[],[]⟩,⟨[3],some 4,[[1]],[]⟩,⟨[1],some 5,[],[]⟩,⟨[5],some 6,[[1]],[]⟩,⟨[4,6],some 7,[],[]⟩,⟨[7],some 8,[],[]⟩,⟨[8,1],some 9,[],[]⟩,⟨[8,9],some 10,[],[]⟩,⟨[8,10],some 11,[[1]],[]⟩,⟨[8,11],some 12,[],[]⟩,⟨[12],some 13,[],[]⟩,⟨[13,1],some 14,[],[]⟩,⟨[13,14],some 15,[[1]],[]⟩,⟨[13,1],some 16,[],[]⟩,⟨[13,16],some 17,[[1]],[]⟩,⟨[13,17],some 18,[],[]⟩,⟨[13,18],some 19,[],[]⟩,⟨[13,15,19],some 20,[],[]⟩,⟨[13,20],some 21,[],[]⟩,⟨[21],some 2,[],[]⟩] (by kernel_rfl) (fun k7=>?_) ?_
 ·skip
  refine .fieldAddrP (.no Y) Y t82 Y Y t40 Y Y Y Y<|.load (.no Y) Y t40 Y Y (.ptr _ _ _ _ _ Y) Y Y Y Y<|.fieldAddrP (.no Y) Y t82 Y Y t46 Y Y Y Y<|.load (.no Y) Y t46 Y Y (.ptr _ _ _ _ _ Y) Y Y Y Y<|.call (.no Y) Y [] [] (c_EnvOk b.d b.e (by assumption) (by assumption)) Y Y Y Y Y (.dd (.dd (.dd (.dd (.dd (.dd .nil)))))) Y Y (fun h=>absurd Y h) (.own [7,0] .nil) (.nil) Y Y Y (by simp) Y Y Y<|.moveB (.no Y) Y Y Y Y fun b8 g1_5=>?_
  cases b8
  ·skip
   refine .off Y Y Y Y Y Y Y<|.off Y Y Y Y Y Y Y<|.off Y Y Y Y Y Y Y<|.pick (.no Y) Y Y Y Y Y<|.move (.no Y) Y Y Y Y<|.off Y Y Y Y Y Y Y<|.off Y Y Y Y Y Y Y<|.off Y Y Y Y Y Y Y<|.off Y Y Y Y Y Y Y ?_
   refine .off Y Y Y Y Y Y Y<|.off Y Y Y Y Y Y Y<|.off Y Y Y Y Y Y Y<|.pick (.no Y) Y Y Y Y Y<|.assign (.no Y) Y Y Y Y ?_
   exact .fin () (.of (.cons (svB (show (false)=(((Decl.ok b.d&&Env.okIn b.d b.e&&b.e.live)&&inR b.leaf 0 (IntKind.wrap .i64 ((leavesOf b.d) - 1)))) by first | (simp only [g1_5,Bool.true_or,Bool.false_or,Bool.true_and,Bool.false_and,Bool.not_true,Bool.not_false]; done) | (simp [g1_5]; done) | (exfalso; simp_all; done))) .nil) .nil)
  ·skip
   refine .fieldAddrP (.on Y Y Y Y Y) Y t82 Y Y t46 Y Y Y Y<|.fieldAddrP (.on Y Y Y Y Y) Y t46 Y Y t4 Y Y Y Y<|.load (.on Y Y Y Y Y) Y t4 Y Y (.ptr _ _ _ _ _ Y) Y Y Y Y<|.pick (.no Y) Y Y Y Y Y<|.moveB (.no Y) Y Y Y Y fun b9 g1_10=>?_
   cases b9
   ·skip
    refine .off Y Y Y Y Y Y Y<|.off Y Y Y Y Y Y Y<|.off Y Y Y Y Y Y Y<|.off Y Y Y Y Y Y Y<|.off Y Y Y Y Y Y Y<|.off Y Y Y Y Y Y Y<|.off Y Y Y Y Y Y Y<|.pick (.no Y) Y Y Y Y Y<|.assign (.no Y) Y Y Y Y ?_
    exact .fin () (.of (.cons (svB (show (false)=(((Decl.ok b.d&&Env.okIn b.d b.e&&b.e.live)&&inR b.leaf 0 (IntKind.wrap .i64 ((leavesOf b.d) - 1)))) by first | (simp only [g1_5,g1_10,Bool.true_or,Bool.false_or,Bool.true_and,Bool.false_and,Bool.not_true,Bool.not_false]; done) | (simp [g1_5,g1_10]; done) | (exfalso; simp_all; done))) .nil) .nil)
   ·skip
    refine .fieldAddrP (.on Y Y Y Y Y) Y t82 Y Y t2 Y Y Y Y<|.load (.on Y Y Y Y Y) Y t2 Y Y (.ptr _ _ _ _ _ Y) Y Y Y Y<|.fieldAddrP (.on Y Y Y Y Y) Y t82 Y Y t40 Y Y Y Y<|.load (.on Y Y Y Y Y) Y t40 Y Y (.ptr _ _ _ _ _ Y) Y Y Y Y<|.call (.on Y Y Y Y Y) Y [] [] (c_leaves b.d) Y Y Y Y Y (.dd (.dd (.dd .nil))) Y Y (fun h=>absurd Y h) (.own [18,0] .nil) (.nil) Y Y Y (by simp) Y Y Y<|.bin (.on Y Y Y Y Y) Y Y Y Y Y Y<|.call (.on Y Y Y Y Y) Y [] [] (c_within b.leaf 0 (IntKind.wrap .i64 ((leavesOf b.d) - 1))) Y Y Y Y Y (.dd (.dd (.dd .nil))) Y Y (fun h=>absurd Y h) (.own [20,0] .nil) (.nil) Y Y Y (by simp) Y Y Y<|.pick (.no Y) Y Y Y Y Y ?_
    refine .assign (.no Y) Y Y Y Y ?_
    exact .fin () (.of (.cons (svB (show (inR b.leaf 0 (IntKind.wrap .i64 ((leavesOf b.d) - 1)))=(((Decl.ok b.d&&Env.okIn b.d b.e&&b.e.live)&&inR b.leaf 0 (IntKind.wrap .i64 ((leavesOf b.d) - 1)))) by first | (simp only [g1_5,g1_10,Bool.true_or,Bool.false_or,Bool.true_and,Bool.false_and,Bool.not_true,Bool.not_false]; done) | (simp [g1_5,g1_10]; done) | (exfalso; simp_all; done))) .nil) .nil)
 intro _
 refine .ret ?_
 exact fin0 (.inr Y) (.one (svB (show (((Decl.ok b.d&&Env.okIn b.d b.e&&b.e.live)&&inR b.leaf 0 (IntKind.wrap .i64 ((leavesOf b.d) - 1))))=(vaL b.d b.e b.leaf) by rfl)) .nil) (.dd .nil) Y
end Go.Proofs

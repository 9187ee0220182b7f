/- Contracts of the program's functions at this seat, printed by a program of ours and checked by Lean: each under the conditions of its own statement. -/
import Derived.Test.YtneihlkamemjeaaDoorF2
set_option linter.all false
set_option linter.unnecessarySimpa false
set_option linter.unusedSectionVars false
set_option linter.unusedSimpArgs false
set_option linter.unusedVariables false
namespace Go.Proofs
open Go Go.Proofs Go.Ev

def i44 : TI := ⟨.fn, 1, 8, [.nilFunc]⟩
theorem t44 : TyOk Tryd.prog 44 i44 := ⟨⟨_, _, _, Tryd.underlying44⟩, by kernel_rfl⟩
theorem z44 : ZOk Tryd.prog 44 i44 := ⟨t44, rfl⟩
def i169 : TI := ⟨.fn, 1, 8, [.nilFunc]⟩
theorem t169 : TyOk Tryd.prog 169 i169 := ⟨⟨_, _, _, Tryd.underlying169⟩, by kernel_rfl⟩
theorem z169 : ZOk Tryd.prog 169 i169 := ⟨t169, rfl⟩
theorem c_IvOk (a : Iv) : Trip Tryd.prog 105 [(true, 2)] (Iv.c a) [(false, 1)] [.v (.bool (Iv.ok a))] [] := by
  refine Trip.of Tryd.func105 (by decide) (c := _) rfl rfl (shB_ok rfl) (Nat.le_of_ble_eq_true rfl) rfl (AftOk.nil _) ?_
  refine .seq ?_
  refine .reg (X := Nat) (fun ζ => .of [(1, .one (.ptr [1] (ζ) 0))] [([1], (ζ, ζ, .box [.d (.v (.int .i64 (a.lo))), .d (.v (.int .i64 (a.hi)))]))]) [⟨[0], some 1, [], [[1]]⟩, ⟨[], some 2, [], []⟩] (fun k1 => ?_) ?_
  · skip
    refine .box (.no rfl) rfl rfl rfl rfl rfl ?_
    refine .assign (.no rfl) rfl rfl rfl rfl ?_
    exact .fin k1 (.of (.cons rfl .nil) (.cons rfl .nil))
  intro g2
  refine .seq ?_
  refine .reg (X := Unit) (fun ζ => .of [(2, .one (.d (.v (.bool (decide (a.lo ≤ a.hi))))))] []) [⟨[1], some 3, [], []⟩, ⟨[3], some 4, [[1]], []⟩, ⟨[1], some 5, [], []⟩, ⟨[5], some 6, [[1]], []⟩, ⟨[4, 6], some 7, [], []⟩, ⟨[7], some 2, [], []⟩] (fun k3 => ?_) ?_
  · skip
    refine .fieldAddrP (.no rfl) rfl t39 rfl rfl t2 rfl rfl rfl rfl ?_
    refine .load (.no rfl) rfl t2 rfl rfl (.ptr _ _ _ _ _ rfl) rfl rfl rfl rfl ?_
    refine .fieldAddrP (.no rfl) rfl t39 rfl rfl t2 rfl rfl rfl rfl ?_
    refine .load (.no rfl) rfl t2 rfl rfl (.ptr _ _ _ _ _ rfl) rfl rfl rfl rfl ?_
    refine .bin (.no rfl) rfl rfl rfl rfl rfl rfl ?_
    refine .assign (.no rfl) rfl rfl rfl rfl ?_
    exact .fin () (.of (.cons rfl .nil) .nil)
  intro _
  refine .ret ?_
  have e4 : (decide (a.lo ≤ a.hi)) = (Iv.ok a) := by rfl
  have hc5 := eq1 (fun z1 => SV.one (.d (.v (.bool (z1))))) e4
  show _ ∧ _
  exact ⟨.inr rfl, .done ⟨_, [], [], _, .one (c := .d (.v (.bool (Iv.ok a)))) (hc5) .nil, .cons (Reads.d _).gives .nil, nodupB_ok rfl, by simp, (by simp)⟩⟩
theorem c_IndexFuncA (l : List Arr) (F_p : FuncId) (first_p : List (Bool × List D)) (caps_p : List D) (p : Arr → Bool) (h_p : ∀ (x0 : Arr), FnTrip Tryd.prog F_p first_p caps_p [(true, 2)] (Arr.c x0) [(false, 1)] [.v (.bool (p x0))]) : Trip Tryd.prog 170 [(false, 1), (false, 1)] ([.sl false 52 2 (List.map Arr.c (l))] ++ [.fn F_p first_p caps_p]) [(false, 1)] [.v (.int .i64 (idx p l))] [] := by
  refine Trip.of Tryd.func170 (by decide) (c := _) rfl rfl (shB_ok rfl) (Nat.le_of_ble_eq_true rfl) rfl (AftOk.nil _) ?_
  refine .sat (t := 0) rfl (fun hs1 => ?_)
  have hs1l : l.length ≤ 9223372036854775807 := hs1.maplen
  refine .seq ?_
  refine .reg (X := Unit) (fun ζ => .of [(0, .one (.d (.sl false 52 2 (List.map Arr.c (l))))), (1, .one (.d (.fn F_p first_p caps_p)))] []) [⟨[], some 4, [], []⟩] (fun k2 => ?_) ?_
  · skip
    refine .assign (.no rfl) rfl rfl rfl rfl ?_
    exact .fin () (.of (.cons rfl (.cons rfl .nil)) .nil)
  intro _
  refine .seq ?_
  refine .seq ?_
  refine .reg (X := Unit) (fun ζ => .of [(0, .one (.d (.sl false 52 2 (List.map Arr.c (l))))), (1, .one (.d (.fn F_p first_p caps_p))), (7, .one (.d (.v (.int .i64 ((l.length : Int)))))), (8, .one (.d (.v (.int .i64 (0)))))] []) [⟨[0], some 6, [], []⟩, ⟨[6], some 7, [], []⟩, ⟨[], some 8, [], []⟩] (fun k3 => ?_) ?_
  · skip
    refine .move (.no rfl) rfl rfl rfl rfl ?_
    refine .len (.no rfl) rfl (z := (l.length : Int)) t25 rfl rfl rfl (.d _ _) (map_len _ _) rfl ?_
    refine .move (.no rfl) rfl rfl rfl rfl ?_
    exact .fin () (.of (.cons rfl (.cons rfl (.cons rfl (.cons rfl .nil)))) .nil)
  intro _
  refine .block ?_
  refine .loop (X := Nat) (fun ζ => .of [(0, .one (.d (.sl false 52 2 (List.map Arr.c (l))))), (1, .one (.d (.fn F_p first_p caps_p))), (7, .one (.d (.v (.int .i64 ((l.length : Int)))))), (8, .one (.d (.v (.int .i64 ((ζ : Int))))))] []) (fun ζ => ζ ≤ l.length ∧ allTo ζ (fun i => !p (l.getD i default)) = true) (fun ζ => l.length - ζ) ?_ ?_
  · skip
    exact .here 0 (.of (.cons rfl (.cons rfl (.cons rfl (.cons (svI (show (0) = ((0 : Int)) by first | rfl | omega | exact wrap_le (by omega) (by omega) | (rw [wrap_le (by omega) (by omega)]; omega))) .nil)))) .nil) (show 0 ≤ l.length ∧ allTo 0 (fun i => !p (l.getD i default)) = true by exact ⟨by omega, rfl⟩)
  · rintro j hI
    have hI : j ≤ l.length ∧ allTo j (fun i => !p (l.getD i default)) = true := hI
    refine .seq ?_
    refine .reg (X := Unit) (fun ζ => .of [(0, .one (.d (.sl false 52 2 (List.map Arr.c (l))))), (1, .one (.d (.fn F_p first_p caps_p))), (7, .one (.d (.v (.int .i64 ((l.length : Int)))))), (8, .one (.d (.v (.int .i64 ((j : Int)))))), (9, .one (.d (.v (.bool (decide ((j : Int) < (l.length : Int)))))))] []) [⟨[8, 7], some 9, [], []⟩] (fun k4 => ?_) ?_
    · skip
      refine .bin (.no rfl) rfl rfl rfl rfl rfl rfl ?_
      exact .fin () (.of (.cons rfl (.cons rfl (.cons rfl (.cons rfl (.cons rfl .nil))))) .nil)
    intro _
    refine .seq ?_
    refine .cond (t := decide ((j : Int) < (l.length : Int))) rfl (fun c0 => ?_) (fun c0 => ?_)
    · have c0 := of_decide_eq_true c0
      refine .skip ?_
      refine .seq ?_
      refine .block ?_
      refine .seq ?_
      refine .reg (X := Unit) (fun ζ => .of [(0, .one (.d (.sl false 52 2 (List.map Arr.c (l))))), (1, .one (.d (.fn F_p first_p caps_p))), (5, .one (.d (.v (.int .i64 ((j : Int)))))), (7, .one (.d (.v (.int .i64 ((l.length : Int)))))), (8, .one (.d (.v (.int .i64 ((j : Int))))))] []) [⟨[8], some 10, [], []⟩, ⟨[10], some 5, [], []⟩] (fun k5 => ?_) ?_
      · skip
        refine .move (.no rfl) rfl rfl rfl rfl ?_
        refine .assign (.no rfl) rfl rfl rfl rfl ?_
        exact .fin () (.of (.cons rfl (.cons rfl (.cons rfl (.cons rfl (.cons rfl .nil))))) .nil)
      intro _
      refine .seq ?_
      refine .reg (X := Unit) (fun ζ => .of [(0, .one (.d (.sl false 52 2 (List.map Arr.c (l))))), (1, .one (.d (.fn F_p first_p caps_p))), (5, .one (.d (.v (.int .i64 ((j : Int)))))), (7, .one (.d (.v (.int .i64 ((l.length : Int)))))), (8, .one (.d (.v (.int .i64 ((j : Int)))))), (16, .one (.d (.v (.bool (p (l.getD j default))))))] []) [⟨[1], some 11, [], []⟩, ⟨[0], some 12, [], []⟩, ⟨[5], some 13, [], []⟩, ⟨[12, 13], some 14, [], []⟩, ⟨[14], some 15, [], []⟩, ⟨[11, 15], some 16, [], []⟩] (fun k6 => ?_) ?_
      · skip
        refine .move (.no rfl) rfl rfl rfl rfl ?_
        refine .move (.no rfl) rfl rfl rfl rfl ?_
        refine .move (.no rfl) rfl rfl rfl rfl ?_
        refine .indexAddr (.no rfl) rfl (j) t25 rfl t52 rfl rfl rfl (.d _ _) rfl rfl rfl (map_get (by omega)) rfl rfl ?_
        refine .load (.no rfl) rfl t52 rfl rfl (.d _) rfl rfl rfl rfl ?_
        refine .callF (.no rfl) rfl (ds := [.v (.string ((l.getD j default).name)), .v (.int .i64 ((l.getD j default).size))]) (h_p (l.getD j default)) rfl rfl rfl rfl (.own [16, 0] .nil) rfl rfl rfl rfl rfl rfl ?_
        exact .fin () (.of (.cons rfl (.cons rfl (.cons rfl (.cons rfl (.cons rfl (.cons rfl .nil)))))) .nil)
      intro _
      refine .cond (t := p (l.getD j default)) rfl (fun c1 => ?_) (fun c1 => ?_)
      · have c1 := c1
        refine .seq ?_
        refine .reg (X := Unit) (fun ζ => .of [(4, .one (.d (.v (.int .i64 ((j : Int))))))] []) [⟨[5], some 17, [], []⟩, ⟨[17], some 4, [], []⟩] (fun k7 => ?_) ?_
        · skip
          refine .move (.no rfl) rfl rfl rfl rfl ?_
          refine .assign (.no rfl) rfl rfl rfl rfl ?_
          exact .fin () (.of (.cons rfl .nil) .nil)
        intro _
        refine .ret ?_
        have e8 : ((j : Int)) = (idx p l) := by exact (idx_found (j := j) (by omega) hI.2 (by simpa using c1)).symm
        have hc9 := eq1 (fun z1 => SV.one (.d (.v (.int .i64 (z1))))) e8
        show _ ∧ _
        exact ⟨.inr rfl, .done ⟨_, [], [], _, .one (c := .d (.v (.int .i64 (idx p l)))) (hc9) .nil, .cons (Reads.d _).gives .nil, nodupB_ok rfl, by simp, (by simp)⟩⟩
      · have c1 := c1
        refine .skip ?_
        refine .reg (X := Unit) (fun ζ => .of [(0, .one (.d (.sl false 52 2 (List.map Arr.c (l))))), (1, .one (.d (.fn F_p first_p caps_p))), (7, .one (.d (.v (.int .i64 ((l.length : Int)))))), (8, .one (.d (.v (.int .i64 (IntKind.wrap .i64 ((j : Int) + 1))))))] []) [⟨[8], some 18, [], []⟩, ⟨[18], some 8, [], []⟩] (fun k10 => ?_) ?_
        · skip
          refine .bin (.no rfl) rfl rfl rfl rfl rfl rfl ?_
          refine .move (.no rfl) rfl rfl rfl rfl ?_
          exact .fin () (.of (.cons rfl (.cons rfl (.cons rfl (.cons rfl .nil)))) .nil)
        intro _
        exact .here (j + 1) (.of (.cons rfl (.cons rfl (.cons rfl (.cons (svI (show (IntKind.wrap .i64 ((j : Int) + 1)) = (((j + 1) : Int)) by first | rfl | omega | exact wrap_le (by omega) (by omega) | (rw [wrap_le (by omega) (by omega)]; omega))) .nil)))) .nil) ⟨(show (j + 1) ≤ l.length ∧ allTo (j + 1) (fun i => !p (l.getD i default)) = true by exact ⟨by omega, allTo_step hI.2 (by simpa using c1)⟩), (show l.length - (j + 1) < l.length - j by omega)⟩
    · have c0 := of_decide_eq_false c0
      refine .exit ?_
      refine .seq ?_
      refine .reg (X := Unit) (fun ζ => .of [(4, .one (.d (.v (.int .i64 (-1)))))] []) [⟨[], some 4, [], []⟩] (fun k11 => ?_) ?_
      · skip
        refine .assign (.no rfl) rfl rfl rfl rfl ?_
        exact .fin () (.of (.cons rfl .nil) .nil)
      intro _
      refine .ret ?_
      have e12 : (-1) = (idx p l) := by exact (idx_none (by omega) hI.2).symm
      have hc13 := eq1 (fun z1 => SV.one (.d (.v (.int .i64 (z1))))) e12
      show _ ∧ _
      exact ⟨.inr rfl, .done ⟨_, [], [], _, .one (c := .d (.v (.int .i64 (idx p l)))) (hc13) .nil, .cons (Reads.d _).gives .nil, nodupB_ok rfl, by simp, (by simp)⟩⟩
theorem c_ContainsFuncA (l : List Arr) (F_p : FuncId) (first_p : List (Bool × List D)) (caps_p : List D) (p : Arr → Bool) (h_p : ∀ (x0 : Arr), FnTrip Tryd.prog F_p first_p caps_p [(true, 2)] (Arr.c x0) [(false, 1)] [.v (.bool (p x0))]) : Trip Tryd.prog 159 [(false, 1), (false, 1)] ([.sl false 52 2 (List.map Arr.c (l))] ++ [.fn F_p first_p caps_p]) [(false, 1)] [.v (.bool (l.any p))] [] := by
  refine Trip.of Tryd.func159 (by decide) (c := _) rfl rfl (shB_ok rfl) (Nat.le_of_ble_eq_true rfl) rfl (AftOk.nil _) ?_
  refine .sat (t := 0) rfl (fun hs1 => ?_)
  have hs1l : l.length ≤ 9223372036854775807 := hs1.maplen
  refine .seq ?_
  refine .reg (X := Unit) (fun ζ => .of [(0, .one (.d (.sl false 52 2 (List.map Arr.c (l))))), (1, .one (.d (.fn F_p first_p caps_p)))] []) [⟨[], some 4, [], []⟩] (fun k2 => ?_) ?_
  · skip
    refine .assign (.no rfl) rfl rfl rfl rfl ?_
    exact .fin () (.of (.cons rfl (.cons rfl .nil)) .nil)
  intro _
  refine .seq ?_
  refine .reg (X := Unit) (fun ζ => .of [(4, .one (.d (.v (.bool (decide ((idx p l) ≥ 0))))))] []) [⟨[0], some 5, [], []⟩, ⟨[1], some 6, [], []⟩, ⟨[5, 6], some 7, [], []⟩, ⟨[7], some 8, [], []⟩, ⟨[8], some 4, [], []⟩] (fun k3 => ?_) ?_
  · skip
    refine .move (.no rfl) rfl rfl rfl rfl ?_
    refine .move (.no rfl) rfl rfl rfl rfl ?_
    refine .call (.no rfl) rfl [] [] (c_IndexFuncA l F_p first_p caps_p p h_p) rfl rfl rfl rfl rfl (.cons (Reads.d _).gives (.cons (Reads.d _).gives .nil)) rfl rfl (fun h => absurd rfl h) (.own [7, 0] .nil) (.nil) rfl rfl rfl (by simp) rfl rfl rfl ?_
    refine .bin (.no rfl) rfl rfl rfl rfl rfl rfl ?_
    refine .assign (.no rfl) rfl rfl rfl rfl ?_
    exact .fin () (.of (.cons rfl .nil) .nil)
  intro _
  refine .ret ?_
  have e4 : (decide ((idx p l) ≥ 0)) = (l.any p) := by exact idx_any _ _
  have hc5 := eq1 (fun z1 => SV.one (.d (.v (.bool (z1))))) e4
  show _ ∧ _
  exact ⟨.inr rfl, .done ⟨_, [], [], _, .one (c := .d (.v (.bool (l.any p)))) (hc5) .nil, .cons (Reads.d _).gives .nil, nodupB_ok rfl, by simp, (by simp)⟩⟩
theorem c_areAll1A (x : Arr) (F_p : FuncId) (first_p : List (Bool × List D)) (caps_p : List D) (p : Arr → Bool) (h_p : ∀ (x0 : Arr), FnTrip Tryd.prog F_p first_p caps_p [(true, 2)] (Arr.c x0) [(false, 1)] [.v (.bool (p x0))]) : Trip Tryd.prog 160 [(true, 2), (false, 1)] (Arr.c x ++ [.pt false [.fn F_p first_p caps_p]]) [(false, 1)] [.v (.bool (!p x))] [] := by
  refine Trip.of Tryd.func160 (by decide) (c := _) rfl rfl (shB_ok rfl) (Nat.le_of_ble_eq_true rfl) rfl (AftOk.nil _) ?_
  refine .seq ?_
  refine .reg (X := Nat) (fun ζ => .of [(1, .one (.d (.pt false [.fn F_p first_p caps_p]))), (2, .one (.ptr [2] (ζ) 0))] [([2], (ζ, ζ, .box [.d (.v (.string (x.name))), .d (.v (.int .i64 (x.size)))]))]) [⟨[0], some 2, [], [[2]]⟩, ⟨[], some 3, [], []⟩] (fun k1 => ?_) ?_
  · skip
    refine .box (.no rfl) rfl rfl rfl rfl rfl ?_
    refine .assign (.no rfl) rfl rfl rfl rfl ?_
    exact .fin k1 (.of (.cons rfl (.cons rfl .nil)) (.cons rfl .nil))
  intro g2
  refine .seq ?_
  refine .reg (X := Unit) (fun ζ => .of [(3, .one (.d (.v (.bool (!(p x))))))] []) [⟨[1], some 4, [], []⟩, ⟨[2], some 5, [[2]], []⟩, ⟨[4, 5], some 6, [], []⟩, ⟨[6], some 7, [], []⟩, ⟨[7], some 3, [], []⟩] (fun k3 => ?_) ?_
  · skip
    refine .load (.no rfl) rfl t169 rfl rfl (.d _) rfl rfl rfl rfl ?_
    refine .load (.no rfl) rfl t52 rfl rfl (.ptr _ _ _ _ _ rfl) rfl rfl rfl rfl ?_
    refine .callF (.no rfl) rfl (ds := [.v (.string (x.name)), .v (.int .i64 (x.size))]) (h_p x) rfl rfl rfl rfl (.own [6, 0] .nil) rfl rfl rfl rfl rfl rfl ?_
    refine .un (.no rfl) rfl rfl rfl rfl rfl ?_
    refine .assign (.no rfl) rfl rfl rfl rfl ?_
    exact .fin () (.of (.cons rfl .nil) .nil)
  intro _
  refine .ret ?_
  have e4 : (!(p x)) = (!p x) := by rfl
  have hc5 := eq1 (fun z1 => SV.one (.d (.v (.bool (z1))))) e4
  show _ ∧ _
  exact ⟨.inr rfl, .done ⟨_, [], [], _, .one (c := .d (.v (.bool (!p x)))) (hc5) .nil, .cons (Reads.d _).gives .nil, nodupB_ok rfl, by simp, (by simp)⟩⟩
theorem c_areAllA (l : List Arr) (F_p : FuncId) (first_p : List (Bool × List D)) (caps_p : List D) (p : Arr → Bool) (h_p : ∀ (x0 : Arr), FnTrip Tryd.prog F_p first_p caps_p [(true, 2)] (Arr.c x0) [(false, 1)] [.v (.bool (p x0))]) : Trip Tryd.prog 135 [(false, 1), (false, 1)] ([.sl false 52 2 (List.map Arr.c (l))] ++ [.fn F_p first_p caps_p]) [(false, 1)] [.v (.bool (l.all p))] [] := by
  refine Trip.of Tryd.func135 (by decide) (c := _) rfl rfl (shB_ok rfl) (Nat.le_of_ble_eq_true rfl) rfl (AftOk.nil _) ?_
  refine .sat (t := 0) rfl (fun hs1 => ?_)
  have hs1l : l.length ≤ 9223372036854775807 := hs1.maplen
  refine .seq ?_
  refine .reg (X := Nat) (fun ζ => .of [(0, .one (.d (.sl false 52 2 (List.map Arr.c (l))))), (3, .one (.ptr [3] (ζ) 0))] [([3], (ζ, ζ, .box [.d (.fn F_p first_p caps_p)]))]) [⟨[1], some 3, [], [[3]]⟩, ⟨[], some 4, [], []⟩] (fun k2 => ?_) ?_
  · skip
    refine .box (.no rfl) rfl rfl rfl rfl rfl ?_
    refine .assign (.no rfl) rfl rfl rfl rfl ?_
    exact .fin k2 (.of (.cons rfl (.cons rfl .nil)) (.cons rfl .nil))
  intro g3
  refine .seq ?_
  refine .reg (X := Unit) (fun ζ => .of [(4, .one (.d (.v (.bool (!(l.any (fun x0 => !p x0)))))))] []) [⟨[0], some 5, [], []⟩, ⟨[3], some 6, [], []⟩, ⟨[5, 6], some 7, [[3]], []⟩, ⟨[7], some 8, [], []⟩, ⟨[8], some 4, [], []⟩] (fun k4 => ?_) ?_
  · skip
    refine .move (.no rfl) rfl rfl rfl rfl ?_
    refine .makeFunc (.no rfl) rfl rfl rfl rfl rfl ?_
    refine .call (.no rfl) rfl [[3]] [([3], (g3, g3, .box [.d (.fn F_p first_p caps_p)]))] (c_ContainsFuncA l 160 [] [.pt false [.fn F_p first_p caps_p]] (fun x0 => !p x0) (fun x0 => c_areAll1A x0 F_p first_p caps_p p h_p)) rfl rfl rfl rfl rfl (.cons (Reads.d _).gives (.cons (Reads.clo0 (.cons (Reads.ptr0 (.head _) (.head _) (.cons (Reads.d _) .nil)) .nil)).gives .nil)) rfl rfl (fun _ => (ownCons (Owned.v _) ownNil)) (.own [7, 0] .nil) (.nil) rfl rfl rfl (AllH.get (.cons rfl .nil)) rfl rfl rfl ?_
    refine .un (.no rfl) rfl rfl rfl rfl rfl ?_
    refine .assign (.no rfl) rfl rfl rfl rfl ?_
    exact .fin () (.of (.cons rfl .nil) .nil)
  intro _
  refine .ret ?_
  have e5 : (!(l.any (fun x0 => !p x0))) = (l.all p) := by exact not_any _ _
  have hc6 := eq1 (fun z1 => SV.one (.d (.v (.bool (z1))))) e5
  show _ ∧ _
  exact ⟨.inr rfl, .done ⟨_, [], [], _, .one (c := .d (.v (.bool (l.all p)))) (hc6) .nil, .cons (Reads.d _).gives .nil, nodupB_ok rfl, by simp, (by simp)⟩⟩
theorem c_IndexFuncI (l : List Iv) (F_p : FuncId) (first_p : List (Bool × List D)) (caps_p : List D) (p : Iv → Bool) (h_p : ∀ (x0 : Iv), FnTrip Tryd.prog F_p first_p caps_p [(true, 2)] (Iv.c x0) [(false, 1)] [.v (.bool (p x0))]) : Trip Tryd.prog 171 [(false, 1), (false, 1)] ([.sl false 39 2 (List.map Iv.c (l))] ++ [.fn F_p first_p caps_p]) [(false, 1)] [.v (.int .i64 (idx p l))] [] := by
  refine Trip.of Tryd.func171 (by decide) (c := _) rfl rfl (shB_ok rfl) (Nat.le_of_ble_eq_true rfl) rfl (AftOk.nil _) ?_
  refine .sat (t := 0) rfl (fun hs1 => ?_)
  have hs1l : l.length ≤ 9223372036854775807 := hs1.maplen
  refine .seq ?_
  refine .reg (X := Unit) (fun ζ => .of [(0, .one (.d (.sl false 39 2 (List.map Iv.c (l))))), (1, .one (.d (.fn F_p first_p caps_p)))] []) [⟨[], some 4, [], []⟩] (fun k2 => ?_) ?_
  · skip
    refine .assign (.no rfl) rfl rfl rfl rfl ?_
    exact .fin () (.of (.cons rfl (.cons rfl .nil)) .nil)
  intro _
  refine .seq ?_
  refine .seq ?_
  refine .reg (X := Unit) (fun ζ => .of [(0, .one (.d (.sl false 39 2 (List.map Iv.c (l))))), (1, .one (.d (.fn F_p first_p caps_p))), (7, .one (.d (.v (.int .i64 ((l.length : Int)))))), (8, .one (.d (.v (.int .i64 (0)))))] []) [⟨[0], some 6, [], []⟩, ⟨[6], some 7, [], []⟩, ⟨[], some 8, [], []⟩] (fun k3 => ?_) ?_
  · skip
    refine .move (.no rfl) rfl rfl rfl rfl ?_
    refine .len (.no rfl) rfl (z := (l.length : Int)) t28 rfl rfl rfl (.d _ _) (map_len _ _) rfl ?_
    refine .move (.no rfl) rfl rfl rfl rfl ?_
    exact .fin () (.of (.cons rfl (.cons rfl (.cons rfl (.cons rfl .nil)))) .nil)
  intro _
  refine .block ?_
  refine .loop (X := Nat) (fun ζ => .of [(0, .one (.d (.sl false 39 2 (List.map Iv.c (l))))), (1, .one (.d (.fn F_p first_p caps_p))), (7, .one (.d (.v (.int .i64 ((l.length : Int)))))), (8, .one (.d (.v (.int .i64 ((ζ : Int))))))] []) (fun ζ => ζ ≤ l.length ∧ allTo ζ (fun i => !p (l.getD i default)) = true) (fun ζ => l.length - ζ) ?_ ?_
  · skip
    exact .here 0 (.of (.cons rfl (.cons rfl (.cons rfl (.cons (svI (show (0) = ((0 : Int)) by first | rfl | omega | exact wrap_le (by omega) (by omega) | (rw [wrap_le (by omega) (by omega)]; omega))) .nil)))) .nil) (show 0 ≤ l.length ∧ allTo 0 (fun i => !p (l.getD i default)) = true by exact ⟨by omega, rfl⟩)
  · rintro j hI
    have hI : j ≤ l.length ∧ allTo j (fun i => !p (l.getD i default)) = true := hI
    refine .seq ?_
    refine .reg (X := Unit) (fun ζ => .of [(0, .one (.d (.sl false 39 2 (List.map Iv.c (l))))), (1, .one (.d (.fn F_p first_p caps_p))), (7, .one (.d (.v (.int .i64 ((l.length : Int)))))), (8, .one (.d (.v (.int .i64 ((j : Int)))))), (9, .one (.d (.v (.bool (decide ((j : Int) < (l.length : Int)))))))] []) [⟨[8, 7], some 9, [], []⟩] (fun k4 => ?_) ?_
    · skip
      refine .bin (.no rfl) rfl rfl rfl rfl rfl rfl ?_
      exact .fin () (.of (.cons rfl (.cons rfl (.cons rfl (.cons rfl (.cons rfl .nil))))) .nil)
    intro _
    refine .seq ?_
    refine .cond (t := decide ((j : Int) < (l.length : Int))) rfl (fun c0 => ?_) (fun c0 => ?_)
    · have c0 := of_decide_eq_true c0
      refine .skip ?_
      refine .seq ?_
      refine .block ?_
      refine .seq ?_
      refine .reg (X := Unit) (fun ζ => .of [(0, .one (.d (.sl false 39 2 (List.map Iv.c (l))))), (1, .one (.d (.fn F_p first_p caps_p))), (5, .one (.d (.v (.int .i64 ((j : Int)))))), (7, .one (.d (.v (.int .i64 ((l.length : Int)))))), (8, .one (.d (.v (.int .i64 ((j : Int))))))] []) [⟨[8], some 10, [], []⟩, ⟨[10], some 5, [], []⟩] (fun k5 => ?_) ?_
      · skip
        refine .move (.no rfl) rfl rfl rfl rfl ?_
        refine .assign (.no rfl) rfl rfl rfl rfl ?_
        exact .fin () (.of (.cons rfl (.cons rfl (.cons rfl (.cons rfl (.cons rfl .nil))))) .nil)
      intro _
      refine .seq ?_
      refine .reg (X := Unit) (fun ζ => .of [(0, .one (.d (.sl false 39 2 (List.map Iv.c (l))))), (1, .one (.d (.fn F_p first_p caps_p))), (5, .one (.d (.v (.int .i64 ((j : Int)))))), (7, .one (.d (.v (.int .i64 ((l.length : Int)))))), (8, .one (.d (.v (.int .i64 ((j : Int)))))), (16, .one (.d (.v (.bool (p (l.getD j default))))))] []) [⟨[1], some 11, [], []⟩, ⟨[0], some 12, [], []⟩, ⟨[5], some 13, [], []⟩, ⟨[12, 13], some 14, [], []⟩, ⟨[14], some 15, [], []⟩, ⟨[11, 15], some 16, [], []⟩] (fun k6 => ?_) ?_
      · skip
        refine .move (.no rfl) rfl rfl rfl rfl ?_
        refine .move (.no rfl) rfl rfl rfl rfl ?_
        refine .move (.no rfl) rfl rfl rfl rfl ?_
        refine .indexAddr (.no rfl) rfl (j) t28 rfl t39 rfl rfl rfl (.d _ _) rfl rfl rfl (map_get (by omega)) rfl rfl ?_
        refine .load (.no rfl) rfl t39 rfl rfl (.d _) rfl rfl rfl rfl ?_
        refine .callF (.no rfl) rfl (ds := [.v (.int .i64 ((l.getD j default).lo)), .v (.int .i64 ((l.getD j default).hi))]) (h_p (l.getD j default)) rfl rfl rfl rfl (.own [16, 0] .nil) rfl rfl rfl rfl rfl rfl ?_
        exact .fin () (.of (.cons rfl (.cons rfl (.cons rfl (.cons rfl (.cons rfl (.cons rfl .nil)))))) .nil)
      intro _
      refine .cond (t := p (l.getD j default)) rfl (fun c1 => ?_) (fun c1 => ?_)
      · have c1 := c1
        refine .seq ?_
        refine .reg (X := Unit) (fun ζ => .of [(4, .one (.d (.v (.int .i64 ((j : Int))))))] []) [⟨[5], some 17, [], []⟩, ⟨[17], some 4, [], []⟩] (fun k7 => ?_) ?_
        · skip
          refine .move (.no rfl) rfl rfl rfl rfl ?_
          refine .assign (.no rfl) rfl rfl rfl rfl ?_
          exact .fin () (.of (.cons rfl .nil) .nil)
        intro _
        refine .ret ?_
        have e8 : ((j : Int)) = (idx p l) := by exact (idx_found (j := j) (by omega) hI.2 (by simpa using c1)).symm
        have hc9 := eq1 (fun z1 => SV.one (.d (.v (.int .i64 (z1))))) e8
        show _ ∧ _
        exact ⟨.inr rfl, .done ⟨_, [], [], _, .one (c := .d (.v (.int .i64 (idx p l)))) (hc9) .nil, .cons (Reads.d _).gives .nil, nodupB_ok rfl, by simp, (by simp)⟩⟩
      · have c1 := c1
        refine .skip ?_
        refine .reg (X := Unit) (fun ζ => .of [(0, .one (.d (.sl false 39 2 (List.map Iv.c (l))))), (1, .one (.d (.fn F_p first_p caps_p))), (7, .one (.d (.v (.int .i64 ((l.length : Int)))))), (8, .one (.d (.v (.int .i64 (IntKind.wrap .i64 ((j : Int) + 1))))))] []) [⟨[8], some 18, [], []⟩, ⟨[18], some 8, [], []⟩] (fun k10 => ?_) ?_
        · skip
          refine .bin (.no rfl) rfl rfl rfl rfl rfl rfl ?_
          refine .move (.no rfl) rfl rfl rfl rfl ?_
          exact .fin () (.of (.cons rfl (.cons rfl (.cons rfl (.cons rfl .nil)))) .nil)
        intro _
        exact .here (j + 1) (.of (.cons rfl (.cons rfl (.cons rfl (.cons (svI (show (IntKind.wrap .i64 ((j : Int) + 1)) = (((j + 1) : Int)) by first | rfl | omega | exact wrap_le (by omega) (by omega) | (rw [wrap_le (by omega) (by omega)]; omega))) .nil)))) .nil) ⟨(show (j + 1) ≤ l.length ∧ allTo (j + 1) (fun i => !p (l.getD i default)) = true by exact ⟨by omega, allTo_step hI.2 (by simpa using c1)⟩), (show l.length - (j + 1) < l.length - j by omega)⟩
    · have c0 := of_decide_eq_false c0
      refine .exit ?_
      refine .seq ?_
      refine .reg (X := Unit) (fun ζ => .of [(4, .one (.d (.v (.int .i64 (-1)))))] []) [⟨[], some 4, [], []⟩] (fun k11 => ?_) ?_
      · skip
        refine .assign (.no rfl) rfl rfl rfl rfl ?_
        exact .fin () (.of (.cons rfl .nil) .nil)
      intro _
      refine .ret ?_
      have e12 : (-1) = (idx p l) := by exact (idx_none (by omega) hI.2).symm
      have hc13 := eq1 (fun z1 => SV.one (.d (.v (.int .i64 (z1))))) e12
      show _ ∧ _
      exact ⟨.inr rfl, .done ⟨_, [], [], _, .one (c := .d (.v (.int .i64 (idx p l)))) (hc13) .nil, .cons (Reads.d _).gives .nil, nodupB_ok rfl, by simp, (by simp)⟩⟩
theorem c_ContainsFuncI (l : List Iv) (F_p : FuncId) (first_p : List (Bool × List D)) (caps_p : List D) (p : Iv → Bool) (h_p : ∀ (x0 : Iv), FnTrip Tryd.prog F_p first_p caps_p [(true, 2)] (Iv.c x0) [(false, 1)] [.v (.bool (p x0))]) : Trip Tryd.prog 161 [(false, 1), (false, 1)] ([.sl false 39 2 (List.map Iv.c (l))] ++ [.fn F_p first_p caps_p]) [(false, 1)] [.v (.bool (l.any p))] [] := by
  refine Trip.of Tryd.func161 (by decide) (c := _) rfl rfl (shB_ok rfl) (Nat.le_of_ble_eq_true rfl) rfl (AftOk.nil _) ?_
  refine .sat (t := 0) rfl (fun hs1 => ?_)
  have hs1l : l.length ≤ 9223372036854775807 := hs1.maplen
  refine .seq ?_
  refine .reg (X := Unit) (fun ζ => .of [(0, .one (.d (.sl false 39 2 (List.map Iv.c (l))))), (1, .one (.d (.fn F_p first_p caps_p)))] []) [⟨[], some 4, [], []⟩] (fun k2 => ?_) ?_
  · skip
    refine .assign (.no rfl) rfl rfl rfl rfl ?_
    exact .fin () (.of (.cons rfl (.cons rfl .nil)) .nil)
  intro _
  refine .seq ?_
  refine .reg (X := Unit) (fun ζ => .of [(4, .one (.d (.v (.bool (decide ((idx p l) ≥ 0))))))] []) [⟨[0], some 5, [], []⟩, ⟨[1], some 6, [], []⟩, ⟨[5, 6], some 7, [], []⟩, ⟨[7], some 8, [], []⟩, ⟨[8], some 4, [], []⟩] (fun k3 => ?_) ?_
  · skip
    refine .move (.no rfl) rfl rfl rfl rfl ?_
    refine .move (.no rfl) rfl rfl rfl rfl ?_
    refine .call (.no rfl) rfl [] [] (c_IndexFuncI l F_p first_p caps_p p h_p) rfl rfl rfl rfl rfl (.cons (Reads.d _).gives (.cons (Reads.d _).gives .nil)) rfl rfl (fun h => absurd rfl h) (.own [7, 0] .nil) (.nil) rfl rfl rfl (by simp) rfl rfl rfl ?_
    refine .bin (.no rfl) rfl rfl rfl rfl rfl rfl ?_
    refine .assign (.no rfl) rfl rfl rfl rfl ?_
    exact .fin () (.of (.cons rfl .nil) .nil)
  intro _
  refine .ret ?_
  have e4 : (decide ((idx p l) ≥ 0)) = (l.any p) := by exact idx_any _ _
  have hc5 := eq1 (fun z1 => SV.one (.d (.v (.bool (z1))))) e4
  show _ ∧ _
  exact ⟨.inr rfl, .done ⟨_, [], [], _, .one (c := .d (.v (.bool (l.any p)))) (hc5) .nil, .cons (Reads.d _).gives .nil, nodupB_ok rfl, by simp, (by simp)⟩⟩
theorem c_areAll1I (x : Iv) (F_p : FuncId) (first_p : List (Bool × List D)) (caps_p : List D) (p : Iv → Bool) (h_p : ∀ (x0 : Iv), FnTrip Tryd.prog F_p first_p caps_p [(true, 2)] (Iv.c x0) [(false, 1)] [.v (.bool (p x0))]) : Trip Tryd.prog 162 [(true, 2), (false, 1)] (Iv.c x ++ [.pt false [.fn F_p first_p caps_p]]) [(false, 1)] [.v (.bool (!p x))] [] := by
  refine Trip.of Tryd.func162 (by decide) (c := _) rfl rfl (shB_ok rfl) (Nat.le_of_ble_eq_true rfl) rfl (AftOk.nil _) ?_
  refine .seq ?_
  refine .reg (X := Nat) (fun ζ => .of [(1, .one (.d (.pt false [.fn F_p first_p caps_p]))), (2, .one (.ptr [2] (ζ) 0))] [([2], (ζ, ζ, .box [.d (.v (.int .i64 (x.lo))), .d (.v (.int .i64 (x.hi)))]))]) [⟨[0], some 2, [], [[2]]⟩, ⟨[], some 3, [], []⟩] (fun k1 => ?_) ?_
  · skip
    refine .box (.no rfl) rfl rfl rfl rfl rfl ?_
    refine .assign (.no rfl) rfl rfl rfl rfl ?_
    exact .fin k1 (.of (.cons rfl (.cons rfl .nil)) (.cons rfl .nil))
  intro g2
  refine .seq ?_
  refine .reg (X := Unit) (fun ζ => .of [(3, .one (.d (.v (.bool (!(p x))))))] []) [⟨[1], some 4, [], []⟩, ⟨[2], some 5, [[2]], []⟩, ⟨[4, 5], some 6, [], []⟩, ⟨[6], some 7, [], []⟩, ⟨[7], some 3, [], []⟩] (fun k3 => ?_) ?_
  · skip
    refine .load (.no rfl) rfl t44 rfl rfl (.d _) rfl rfl rfl rfl ?_
    refine .load (.no rfl) rfl t39 rfl rfl (.ptr _ _ _ _ _ rfl) rfl rfl rfl rfl ?_
    refine .callF (.no rfl) rfl (ds := [.v (.int .i64 (x.lo)), .v (.int .i64 (x.hi))]) (h_p x) rfl rfl rfl rfl (.own [6, 0] .nil) rfl rfl rfl rfl rfl rfl ?_
    refine .un (.no rfl) rfl rfl rfl rfl rfl ?_
    refine .assign (.no rfl) rfl rfl rfl rfl ?_
    exact .fin () (.of (.cons rfl .nil) .nil)
  intro _
  refine .ret ?_
  have e4 : (!(p x)) = (!p x) := by rfl
  have hc5 := eq1 (fun z1 => SV.one (.d (.v (.bool (z1))))) e4
  show _ ∧ _
  exact ⟨.inr rfl, .done ⟨_, [], [], _, .one (c := .d (.v (.bool (!p x)))) (hc5) .nil, .cons (Reads.d _).gives .nil, nodupB_ok rfl, by simp, (by simp)⟩⟩
theorem c_areAllI (l : List Iv) (F_p : FuncId) (first_p : List (Bool × List D)) (caps_p : List D) (p : Iv → Bool) (h_p : ∀ (x0 : Iv), FnTrip Tryd.prog F_p first_p caps_p [(true, 2)] (Iv.c x0) [(false, 1)] [.v (.bool (p x0))]) : Trip Tryd.prog 136 [(false, 1), (false, 1)] ([.sl false 39 2 (List.map Iv.c (l))] ++ [.fn F_p first_p caps_p]) [(false, 1)] [.v (.bool (l.all p))] [] := by
  refine Trip.of Tryd.func136 (by decide) (c := _) rfl rfl (shB_ok rfl) (Nat.le_of_ble_eq_true rfl) rfl (AftOk.nil _) ?_
  refine .sat (t := 0) rfl (fun hs1 => ?_)
  have hs1l : l.length ≤ 9223372036854775807 := hs1.maplen
  refine .seq ?_
  refine .reg (X := Nat) (fun ζ => .of [(0, .one (.d (.sl false 39 2 (List.map Iv.c (l))))), (3, .one (.ptr [3] (ζ) 0))] [([3], (ζ, ζ, .box [.d (.fn F_p first_p caps_p)]))]) [⟨[1], some 3, [], [[3]]⟩, ⟨[], some 4, [], []⟩] (fun k2 => ?_) ?_
  · skip
    refine .box (.no rfl) rfl rfl rfl rfl rfl ?_
    refine .assign (.no rfl) rfl rfl rfl rfl ?_
    exact .fin k2 (.of (.cons rfl (.cons rfl .nil)) (.cons rfl .nil))
  intro g3
  refine .seq ?_
  refine .reg (X := Unit) (fun ζ => .of [(4, .one (.d (.v (.bool (!(l.any (fun x0 => !p x0)))))))] []) [⟨[0], some 5, [], []⟩, ⟨[3], some 6, [], []⟩, ⟨[5, 6], some 7, [[3]], []⟩, ⟨[7], some 8, [], []⟩, ⟨[8], some 4, [], []⟩] (fun k4 => ?_) ?_
  · skip
    refine .move (.no rfl) rfl rfl rfl rfl ?_
    refine .makeFunc (.no rfl) rfl rfl rfl rfl rfl ?_
    refine .call (.no rfl) rfl [[3]] [([3], (g3, g3, .box [.d (.fn F_p first_p caps_p)]))] (c_ContainsFuncI l 162 [] [.pt false [.fn F_p first_p caps_p]] (fun x0 => !p x0) (fun x0 => c_areAll1I x0 F_p first_p caps_p p h_p)) rfl rfl rfl rfl rfl (.cons (Reads.d _).gives (.cons (Reads.clo0 (.cons (Reads.ptr0 (.head _) (.head _) (.cons (Reads.d _) .nil)) .nil)).gives .nil)) rfl rfl (fun _ => (ownCons (Owned.v _) ownNil)) (.own [7, 0] .nil) (.nil) rfl rfl rfl (AllH.get (.cons rfl .nil)) rfl rfl rfl ?_
    refine .un (.no rfl) rfl rfl rfl rfl rfl ?_
    refine .assign (.no rfl) rfl rfl rfl rfl ?_
    exact .fin () (.of (.cons rfl .nil) .nil)
  intro _
  refine .ret ?_
  have e5 : (!(l.any (fun x0 => !p x0))) = (l.all p) := by exact not_any _ _
  have hc6 := eq1 (fun z1 => SV.one (.d (.v (.bool (z1))))) e5
  show _ ∧ _
  exact ⟨.inr rfl, .done ⟨_, [], [], _, .one (c := .d (.v (.bool (l.all p)))) (hc6) .nil, .cons (Reads.d _).gives .nil, nodupB_ok rfl, by simp, (by simp)⟩⟩
theorem c_isLetter (c : Int) : Trip Tryd.prog 156 [(false, 1)] ([.v (.int .u8 (c))]) [(false, 1)] [.v (.bool (decide (c ≥ 97) && decide (c ≤ 122)))] [] := by
  refine Trip.of Tryd.func156 (by decide) (c := _) rfl rfl (shB_ok rfl) (Nat.le_of_ble_eq_true rfl) rfl (AftOk.nil _) ?_
  refine .seq ?_
  refine .reg (X := Unit) (fun ζ => .of [(0, .one (.d (.v (.int .u8 (c)))))] []) [⟨[], some 2, [], []⟩] (fun k1 => ?_) ?_
  · skip
    refine .assign (.no rfl) rfl rfl rfl rfl ?_
    exact .fin () (.of (.cons rfl .nil) .nil)
  intro _
  refine .seq ?_
  refine .reg (X := Unit) (fun ζ => .of [(2, .one (.d (.v (.bool ((decide (c ≥ 97) && decide (c ≤ 122)))))))] []) [⟨[0], some 3, [], []⟩, ⟨[3], some 4, [], []⟩, ⟨[4], some 5, [], []⟩, ⟨[5, 0], some 6, [], []⟩, ⟨[5, 6], some 7, [], []⟩, ⟨[5, 7], some 8, [], []⟩, ⟨[8], some 2, [], []⟩] (fun k2 => ?_) ?_
  · skip
    refine .move (.no rfl) rfl rfl rfl rfl ?_
    refine .bin (.no rfl) rfl rfl rfl rfl rfl rfl ?_
    refine .moveB (.no rfl) rfl rfl rfl rfl fun b3 g1_2 => ?_
    cases b3
    · skip
      refine .off rfl rfl rfl rfl rfl rfl rfl ?_
      refine .off rfl rfl rfl rfl rfl rfl rfl ?_
      refine .pick (.no rfl) rfl rfl rfl rfl rfl ?_
      refine .assign (.no rfl) rfl rfl rfl rfl ?_
      exact .fin () (.of (.cons (svB (show (false) = ((decide (c ≥ 97) && decide (c ≤ 122))) by first | (simp only [g1_2, Bool.true_or, Bool.false_or, Bool.true_and, Bool.false_and, Bool.not_true, Bool.not_false]; done) | simp [g1_2])) .nil) .nil)
    · skip
      refine .move (.on rfl rfl rfl rfl rfl) rfl rfl rfl rfl ?_
      refine .bin (.on rfl rfl rfl rfl rfl) rfl rfl rfl rfl rfl rfl ?_
      refine .pick (.no rfl) rfl rfl rfl rfl rfl ?_
      refine .assign (.no rfl) rfl rfl rfl rfl ?_
      exact .fin () (.of (.cons (svB (show (decide (c ≤ 122)) = ((decide (c ≥ 97) && decide (c ≤ 122))) by first | (simp only [g1_2, Bool.true_or, Bool.false_or, Bool.true_and, Bool.false_and, Bool.not_true, Bool.not_false]; done) | simp [g1_2])) .nil) .nil)
  intro _
  refine .ret ?_
  have e4 : ((decide (c ≥ 97) && decide (c ≤ 122))) = (decide (c ≥ 97) && decide (c ≤ 122)) := by rfl
  have hc5 := eq1 (fun z1 => SV.one (.d (.v (.bool (z1))))) e4
  show _ ∧ _
  exact ⟨.inr rfl, .done ⟨_, [], [], _, .one (c := .d (.v (.bool (decide (c ≥ 97) && decide (c ≤ 122))))) (hc5) .nil, .cons (Reads.d _).gives .nil, nodupB_ok rfl, by simp, (by simp)⟩⟩
theorem c_within (n : Int) (lo : Int) (hi : Int) : Trip Tryd.prog 59 [(false, 1), (false, 1), (false, 1)] ([.v (.int .i64 (n))] ++ [.v (.int .i64 (lo))] ++ [.v (.int .i64 (hi))]) [(false, 1)] [.v (.bool (inR n lo hi))] [] := by
  refine Trip.of Tryd.func59 (by decide) (c := _) rfl rfl (shB_ok rfl) (Nat.le_of_ble_eq_true rfl) rfl (AftOk.nil _) ?_
  refine .seq ?_
  refine .reg (X := Unit) (fun ζ => .of [(0, .one (.d (.v (.int .i64 (n))))), (1, .one (.d (.v (.int .i64 (lo))))), (2, .one (.d (.v (.int .i64 (hi)))))] []) [⟨[], some 6, [], []⟩] (fun k1 => ?_) ?_
  · skip
    refine .assign (.no rfl) rfl rfl rfl rfl ?_
    exact .fin () (.of (.cons rfl (.cons rfl (.cons rfl .nil))) .nil)
  intro _
  refine .seq ?_
  refine .reg (X := Unit) (fun ζ => .of [(6, .one (.d (.v (.bool ((decide (lo ≤ n) && decide (n ≤ hi)))))))] []) [⟨[1], some 7, [], []⟩, ⟨[0], some 8, [], []⟩, ⟨[7, 8], some 9, [], []⟩, ⟨[9], some 10, [], []⟩, ⟨[10, 0], some 11, [], []⟩, ⟨[10, 2], some 12, [], []⟩, ⟨[10, 11, 12], some 13, [], []⟩, ⟨[10, 13], some 14, [], []⟩, ⟨[14], some 6, [], []⟩] (fun k2 => ?_) ?_
  · skip
    refine .move (.no rfl) rfl rfl rfl rfl ?_
    refine .move (.no rfl) rfl rfl rfl rfl ?_
    refine .bin (.no rfl) rfl rfl rfl rfl rfl rfl ?_
    refine .moveB (.no rfl) rfl rfl rfl rfl fun b3 g1_3 => ?_
    cases b3
    · skip
      refine .off rfl rfl rfl rfl rfl rfl rfl ?_
      refine .off rfl rfl rfl rfl rfl rfl rfl ?_
      refine .off rfl rfl rfl rfl rfl rfl rfl ?_
      refine .pick (.no rfl) rfl rfl rfl rfl rfl ?_
      refine .assign (.no rfl) rfl rfl rfl rfl ?_
      exact .fin () (.of (.cons (svB (show (false) = ((decide (lo ≤ n) && decide (n ≤ hi))) by first | (simp only [g1_3, Bool.true_or, Bool.false_or, Bool.true_and, Bool.false_and, Bool.not_true, Bool.not_false]; done) | simp [g1_3])) .nil) .nil)
    · skip
      refine .move (.on rfl rfl rfl rfl rfl) rfl rfl rfl rfl ?_
      refine .move (.on rfl rfl rfl rfl rfl) rfl rfl rfl rfl ?_
      refine .bin (.on rfl rfl rfl rfl rfl) rfl rfl rfl rfl rfl rfl ?_
      refine .pick (.no rfl) rfl rfl rfl rfl rfl ?_
      refine .assign (.no rfl) rfl rfl rfl rfl ?_
      exact .fin () (.of (.cons (svB (show (decide (n ≤ hi)) = ((decide (lo ≤ n) && decide (n ≤ hi))) by first | (simp only [g1_3, Bool.true_or, Bool.false_or, Bool.true_and, Bool.false_and, Bool.not_true, Bool.not_false]; done) | simp [g1_3])) .nil) .nil)
  intro _
  refine .ret ?_
  have e4 : ((decide (lo ≤ n) && decide (n ≤ hi))) = (inR n lo hi) := by rfl
  have hc5 := eq1 (fun z1 => SV.one (.d (.v (.bool (z1))))) e4
  show _ ∧ _
  exact ⟨.inr rfl, .done ⟨_, [], [], _, .one (c := .d (.v (.bool (inR n lo hi)))) (hc5) .nil, .cons (Reads.d _).gives .nil, nodupB_ok rfl, by simp, (by simp)⟩⟩
theorem c_IndexS (l : List ByteArray) (s : ByteArray) : Trip Tryd.prog 158 [(false, 1), (false, 1)] ([.sl false 9 1 (List.map strc (l))] ++ [.v (.string (s))]) [(false, 1)] [.v (.int .i64 (idx (fun x => strEq s x) l))] [] := by
  refine Trip.of Tryd.func158 (by decide) (c := _) rfl rfl (shB_ok rfl) (Nat.le_of_ble_eq_true rfl) rfl (AftOk.nil _) ?_
  refine .sat (t := 0) rfl (fun hs1 => ?_)
  have hs1l : l.length ≤ 9223372036854775807 := hs1.maplen
  refine .seq ?_
  refine .reg (X := Unit) (fun ζ => .of [(0, .one (.d (.sl false 9 1 (List.map strc (l))))), (1, .one (.d (.v (.string (s)))))] []) [⟨[], some 4, [], []⟩] (fun k2 => ?_) ?_
  · skip
    refine .assign (.no rfl) rfl rfl rfl rfl ?_
    exact .fin () (.of (.cons rfl (.cons rfl .nil)) .nil)
  intro _
  refine .seq ?_
  refine .seq ?_
  refine .reg (X := Unit) (fun ζ => .of [(0, .one (.d (.sl false 9 1 (List.map strc (l))))), (1, .one (.d (.v (.string (s))))), (7, .one (.d (.v (.int .i64 ((l.length : Int)))))), (8, .one (.d (.v (.int .i64 (0)))))] []) [⟨[0], some 6, [], []⟩, ⟨[6], some 7, [], []⟩, ⟨[], some 8, [], []⟩] (fun k3 => ?_) ?_
  · skip
    refine .move (.no rfl) rfl rfl rfl rfl ?_
    refine .len (.no rfl) rfl (z := (l.length : Int)) t24 rfl rfl rfl (.d _ _) (map_len _ _) rfl ?_
    refine .move (.no rfl) rfl rfl rfl rfl ?_
    exact .fin () (.of (.cons rfl (.cons rfl (.cons rfl (.cons rfl .nil)))) .nil)
  intro _
  refine .block ?_
  refine .loop (X := Nat) (fun ζ => .of [(0, .one (.d (.sl false 9 1 (List.map strc (l))))), (1, .one (.d (.v (.string (s))))), (7, .one (.d (.v (.int .i64 ((l.length : Int)))))), (8, .one (.d (.v (.int .i64 ((ζ : Int))))))] []) (fun ζ => ζ ≤ l.length ∧ allTo ζ (fun i => !strEq s (l.getD i default)) = true) (fun ζ => l.length - ζ) ?_ ?_
  · skip
    exact .here 0 (.of (.cons rfl (.cons rfl (.cons rfl (.cons (svI (show (0) = ((0 : Int)) by first | rfl | omega | exact wrap_le (by omega) (by omega) | (rw [wrap_le (by omega) (by omega)]; omega))) .nil)))) .nil) (show 0 ≤ l.length ∧ allTo 0 (fun i => !strEq s (l.getD i default)) = true by exact ⟨by omega, rfl⟩)
  · rintro j hI
    have hI : j ≤ l.length ∧ allTo j (fun i => !strEq s (l.getD i default)) = true := hI
    refine .seq ?_
    refine .reg (X := Unit) (fun ζ => .of [(0, .one (.d (.sl false 9 1 (List.map strc (l))))), (1, .one (.d (.v (.string (s))))), (7, .one (.d (.v (.int .i64 ((l.length : Int)))))), (8, .one (.d (.v (.int .i64 ((j : Int)))))), (9, .one (.d (.v (.bool (decide ((j : Int) < (l.length : Int)))))))] []) [⟨[8, 7], some 9, [], []⟩] (fun k4 => ?_) ?_
    · skip
      refine .bin (.no rfl) rfl rfl rfl rfl rfl rfl ?_
      exact .fin () (.of (.cons rfl (.cons rfl (.cons rfl (.cons rfl (.cons rfl .nil))))) .nil)
    intro _
    refine .seq ?_
    refine .cond (t := decide ((j : Int) < (l.length : Int))) rfl (fun c0 => ?_) (fun c0 => ?_)
    · have c0 := of_decide_eq_true c0
      refine .skip ?_
      refine .seq ?_
      refine .block ?_
      refine .seq ?_
      refine .reg (X := Unit) (fun ζ => .of [(0, .one (.d (.sl false 9 1 (List.map strc (l))))), (1, .one (.d (.v (.string (s))))), (5, .one (.d (.v (.int .i64 ((j : Int)))))), (7, .one (.d (.v (.int .i64 ((l.length : Int)))))), (8, .one (.d (.v (.int .i64 ((j : Int))))))] []) [⟨[8], some 10, [], []⟩, ⟨[10], some 5, [], []⟩] (fun k5 => ?_) ?_
      · skip
        refine .move (.no rfl) rfl rfl rfl rfl ?_
        refine .assign (.no rfl) rfl rfl rfl rfl ?_
        exact .fin () (.of (.cons rfl (.cons rfl (.cons rfl (.cons rfl (.cons rfl .nil))))) .nil)
      intro _
      refine .seq ?_
      refine .reg (X := Unit) (fun ζ => .of [(0, .one (.d (.sl false 9 1 (List.map strc (l))))), (1, .one (.d (.v (.string (s))))), (5, .one (.d (.v (.int .i64 ((j : Int)))))), (7, .one (.d (.v (.int .i64 ((l.length : Int)))))), (8, .one (.d (.v (.int .i64 ((j : Int)))))), (16, .one (.d (.v (.bool (s.toList == (l.getD j default).toList)))))] []) [⟨[1], some 11, [], []⟩, ⟨[0], some 12, [], []⟩, ⟨[5], some 13, [], []⟩, ⟨[12, 13], some 14, [], []⟩, ⟨[14], some 15, [], []⟩, ⟨[11, 15], some 16, [], []⟩] (fun k6 => ?_) ?_
      · skip
        refine .move (.no rfl) rfl rfl rfl rfl ?_
        refine .move (.no rfl) rfl rfl rfl rfl ?_
        refine .move (.no rfl) rfl rfl rfl rfl ?_
        refine .indexAddr (.no rfl) rfl (j) t24 rfl t9 rfl rfl rfl (.d _ _) rfl rfl rfl (map_get (by omega)) rfl rfl ?_
        refine .load (.no rfl) rfl t9 rfl rfl (.d _) rfl rfl rfl rfl ?_
        refine .bin (.no rfl) rfl rfl rfl rfl rfl rfl ?_
        exact .fin () (.of (.cons rfl (.cons rfl (.cons rfl (.cons rfl (.cons rfl (.cons rfl .nil)))))) .nil)
      intro _
      refine .cond (t := s.toList == (l.getD j default).toList) rfl (fun c1 => ?_) (fun c1 => ?_)
      · have c1 := c1
        refine .seq ?_
        refine .reg (X := Unit) (fun ζ => .of [(4, .one (.d (.v (.int .i64 ((j : Int))))))] []) [⟨[5], some 17, [], []⟩, ⟨[17], some 4, [], []⟩] (fun k7 => ?_) ?_
        · skip
          refine .move (.no rfl) rfl rfl rfl rfl ?_
          refine .assign (.no rfl) rfl rfl rfl rfl ?_
          exact .fin () (.of (.cons rfl .nil) .nil)
        intro _
        refine .ret ?_
        have e8 : ((j : Int)) = (idx (fun x => strEq s x) l) := by exact (idx_found (p := fun x => strEq s x) (by omega) hI.2 c1).symm
        have hc9 := eq1 (fun z1 => SV.one (.d (.v (.int .i64 (z1))))) e8
        show _ ∧ _
        exact ⟨.inr rfl, .done ⟨_, [], [], _, .one (c := .d (.v (.int .i64 (idx (fun x => strEq s x) l)))) (hc9) .nil, .cons (Reads.d _).gives .nil, nodupB_ok rfl, by simp, (by simp)⟩⟩
      · have c1 := c1
        refine .skip ?_
        refine .reg (X := Unit) (fun ζ => .of [(0, .one (.d (.sl false 9 1 (List.map strc (l))))), (1, .one (.d (.v (.string (s))))), (7, .one (.d (.v (.int .i64 ((l.length : Int)))))), (8, .one (.d (.v (.int .i64 (IntKind.wrap .i64 ((j : Int) + 1))))))] []) [⟨[8], some 18, [], []⟩, ⟨[18], some 8, [], []⟩] (fun k10 => ?_) ?_
        · skip
          refine .bin (.no rfl) rfl rfl rfl rfl rfl rfl ?_
          refine .move (.no rfl) rfl rfl rfl rfl ?_
          exact .fin () (.of (.cons rfl (.cons rfl (.cons rfl (.cons rfl .nil)))) .nil)
        intro _
        exact .here (j + 1) (.of (.cons rfl (.cons rfl (.cons rfl (.cons (svI (show (IntKind.wrap .i64 ((j : Int) + 1)) = (((j + 1) : Int)) by first | rfl | omega | exact wrap_le (by omega) (by omega) | (rw [wrap_le (by omega) (by omega)]; omega))) .nil)))) .nil) ⟨(show (j + 1) ≤ l.length ∧ allTo (j + 1) (fun i => !strEq s (l.getD i default)) = true by exact ⟨by omega, allTo_step hI.2 (by rw [show strEq s (l.getD j default) = false from c1]; rfl)⟩), (show l.length - (j + 1) < l.length - j by omega)⟩
    · have c0 := of_decide_eq_false c0
      refine .exit ?_
      refine .seq ?_
      refine .reg (X := Unit) (fun ζ => .of [(4, .one (.d (.v (.int .i64 (-1)))))] []) [⟨[], some 4, [], []⟩] (fun k11 => ?_) ?_
      · skip
        refine .assign (.no rfl) rfl rfl rfl rfl ?_
        exact .fin () (.of (.cons rfl .nil) .nil)
      intro _
      refine .ret ?_
      have e12 : (-1) = (idx (fun x => strEq s x) l) := by exact (idx_none (p := fun x => strEq s x) (by omega) hI.2).symm
      have hc13 := eq1 (fun z1 => SV.one (.d (.v (.int .i64 (z1))))) e12
      show _ ∧ _
      exact ⟨.inr rfl, .done ⟨_, [], [], _, .one (c := .d (.v (.int .i64 (idx (fun x => strEq s x) l)))) (hc13) .nil, .cons (Reads.d _).gives .nil, nodupB_ok rfl, by simp, (by simp)⟩⟩
theorem c_ContainsS (l : List ByteArray) (s : ByteArray) : Trip Tryd.prog 133 [(false, 1), (false, 1)] ([.sl false 9 1 (List.map strc (l))] ++ [.v (.string (s))]) [(false, 1)] [.v (.bool (l.any fun x => strEq s x))] [] := by
  refine Trip.of Tryd.func133 (by decide) (c := _) rfl rfl (shB_ok rfl) (Nat.le_of_ble_eq_true rfl) rfl (AftOk.nil _) ?_
  refine .sat (t := 0) rfl (fun hs1 => ?_)
  have hs1l : l.length ≤ 9223372036854775807 := hs1.maplen
  refine .seq ?_
  refine .reg (X := Unit) (fun ζ => .of [(0, .one (.d (.sl false 9 1 (List.map strc (l))))), (1, .one (.d (.v (.string (s)))))] []) [⟨[], some 4, [], []⟩] (fun k2 => ?_) ?_
  · skip
    refine .assign (.no rfl) rfl rfl rfl rfl ?_
    exact .fin () (.of (.cons rfl (.cons rfl .nil)) .nil)
  intro _
  refine .seq ?_
  refine .reg (X := Unit) (fun ζ => .of [(4, .one (.d (.v (.bool (decide ((idx (fun x => strEq s x) l) ≥ 0))))))] []) [⟨[0], some 5, [], []⟩, ⟨[1], some 6, [], []⟩, ⟨[5, 6], some 7, [], []⟩, ⟨[7], some 8, [], []⟩, ⟨[8], some 4, [], []⟩] (fun k3 => ?_) ?_
  · skip
    refine .move (.no rfl) rfl rfl rfl rfl ?_
    refine .move (.no rfl) rfl rfl rfl rfl ?_
    refine .call (.no rfl) rfl [] [] (c_IndexS l s) rfl rfl rfl rfl rfl (.cons (Reads.d _).gives (.cons (Reads.d _).gives .nil)) rfl rfl (fun h => absurd rfl h) (.own [7, 0] .nil) (.nil) rfl rfl rfl (by simp) rfl rfl rfl ?_
    refine .bin (.no rfl) rfl rfl rfl rfl rfl rfl ?_
    refine .assign (.no rfl) rfl rfl rfl rfl ?_
    exact .fin () (.of (.cons rfl .nil) .nil)
  intro _
  refine .ret ?_
  have e4 : (decide ((idx (fun x => strEq s x) l) ≥ 0)) = (l.any fun x => strEq s x) := by exact idx_any _ _
  have hc5 := eq1 (fun z1 => SV.one (.d (.v (.bool (z1))))) e4
  show _ ∧ _
  exact ⟨.inr rfl, .done ⟨_, [], [], _, .one (c := .d (.v (.bool (l.any fun x => strEq s x)))) (hc5) .nil, .cons (Reads.d _).gives .nil, nodupB_ok rfl, by simp, (by simp)⟩⟩
theorem asciiTab {W : World} {Z : Nat → Prop} (h : Laid W Z) : ∀ c : Nat, c < 256 → W.cell? ⟨0, c, none⟩ = some (.int .u8 (if Lib.isSp (UInt8.ofNat c) then 1 else 0)) := fun c hc => by
  obtain ⟨_, h2⟩ := h _ (List.mem_singleton.2 rfl)
  obtain ⟨v, h3, h4⟩ := h2 c (.v (.int .u8 (if Lib.isSp (UInt8.ofNat c) then 1 else 0))) (by simp [hc])
  cases h4; exact h3
def words : ByteArray := (⟨#[118, 97, 114, 32, 102, 108, 97, 103, 32, 97, 114, 114, 97, 121, 32, 105, 102, 32, 102, 111, 114, 107, 32, 101, 108, 115, 101, 32, 101, 110, 100, 32, 119, 104, 105, 108, 101, 32, 117, 110, 114, 111, 108, 108, 32, 97, 115, 115, 101, 114, 116, 32, 97, 115, 115, 117, 109, 101, 32, 105, 110, 112, 117, 116, 32, 115, 112, 108, 105, 116, 32, 109, 101, 114, 103, 101, 32, 116, 114, 117, 101, 32, 102, 97, 108, 115, 101]⟩ : ByteArray)
theorem words_ascii : ∀ (j : Nat) b, words.data.toList[j]? = some b → b.toNat < 128 := fun j b h => by
  have h1 : (words.data.toList.all fun b => decide (b.toNat < 128)) = true := by kernel_rfl
  exact of_decide_eq_true (List.all_eq_true.1 h1 b (List.mem_of_getElem? h))
theorem words_fields : Lib.fields words.data.toList = keys.map fun k => k.data.toList := by kernel_rfl
theorem c_Fields : Trip Tryd.prog 168 [(false, 1)] ([.v (.string (⟨#[118, 97, 114, 32, 102, 108, 97, 103, 32, 97, 114, 114, 97, 121, 32, 105, 102, 32, 102, 111, 114, 107, 32, 101, 108, 115, 101, 32, 101, 110, 100, 32, 119, 104, 105, 108, 101, 32, 117, 110, 114, 111, 108, 108, 32, 97, 115, 115, 101, 114, 116, 32, 97, 115, 115, 117, 109, 101, 32, 105, 110, 112, 117, 116, 32, 115, 112, 108, 105, 116, 32, 109, 101, 114, 103, 101, 32, 116, 114, 117, 101, 32, 102, 97, 108, 115, 101]⟩ : ByteArray))]) [(false, 1)] [.sl true 9 1 (List.map strc (keys))] [] := by
  have h := Trip.row1 (P := Tryd.prog) (f := 168) (x := .string words) (cs := keys.map .string) (e := 9) ⟨_, Tryd.func168, by decide, by decide⟩ rfl (by intro v hv; obtain ⟨s, _, rfl⟩ := List.mem_map.1 hv; rfl) (by decide) fun W Z hL _ =>
    (Any.strings_Fields_core Tryd.lays157 (by kernel_rfl) words W (by decide) words_ascii (asciiTab hL)).mono fun e w' ⟨h1, h2⟩ => by
      rw [words_fields] at h1 h2
      exact ⟨h1, h2⟩
  exact h
theorem c_isWord (s : ByteArray) : Trip Tryd.prog 157 [(false, 1)] ([.v (.string (s))]) [(false, 1)] [.v (.bool (isKey s))] [] := by
  refine Trip.of Tryd.func157 (by decide) (c := _) rfl rfl (shB_ok rfl) (Nat.le_of_ble_eq_true rfl) rfl (AftOk.nil _) ?_
  refine .seq ?_
  refine .reg (X := Unit) (fun ζ => .of [(0, .one (.d (.v (.string (s)))))] []) [⟨[], some 2, [], []⟩] (fun k1 => ?_) ?_
  · skip
    refine .assign (.no rfl) rfl rfl rfl rfl ?_
    exact .fin () (.of (.cons rfl .nil) .nil)
  intro _
  refine .seq ?_
  refine .reg (X := Unit) (fun ζ => .of [(2, .one (.d (.v (.bool (keys.any fun x => strEq s x)))))] []) [⟨[], some 3, [], []⟩, ⟨[0], some 4, [], []⟩, ⟨[3, 4], some 5, [], []⟩, ⟨[5], some 2, [], []⟩] (fun k2 => ?_) ?_
  · skip
    refine .call (.no rfl) rfl [] [] (c_Fields ) rfl rfl rfl rfl rfl (.cons (Reads.d _).gives .nil) rfl rfl (fun h => absurd rfl h) (.frz [3, 0] (Frz.of_erase (erase_slo _ _ _ _ _ _ strc_e)) .nil) (.nil) rfl rfl rfl (by simp) rfl rfl rfl ?_
    refine .move (.no rfl) rfl rfl rfl rfl ?_
    refine .call (.no rfl) rfl [] [] (c_ContainsS keys s) rfl rfl rfl rfl rfl (.cons (Reads.d _).gives (.cons (Reads.d _).gives .nil)) rfl rfl (fun h => absurd rfl h) (.own [5, 0] .nil) (.nil) rfl rfl rfl (by simp) rfl rfl rfl ?_
    refine .assign (.no rfl) rfl rfl rfl rfl ?_
    exact .fin () (.of (.cons rfl .nil) .nil)
  intro _
  refine .ret ?_
  have e3 : (keys.any fun x => strEq s x) = (isKey s) := by exact isKey_eq s
  have hc4 := eq1 (fun z1 => SV.one (.d (.v (.bool (z1))))) e3
  show _ ∧ _
  exact ⟨.inr rfl, .done ⟨_, [], [], _, .one (c := .d (.v (.bool (isKey s)))) (hc4) .nil, .cons (Reads.d _).gives .nil, nodupB_ok rfl, by simp, (by simp)⟩⟩
theorem c_isName (s : ByteArray) (hs : s.size ≤ 9223372036854775807) : Trip Tryd.prog 132 [(false, 1)] ([.v (.string (s))]) [(false, 1)] [.v (.bool (nmOk s))] [] := by
  refine Trip.of Tryd.func132 (by decide) (c := _) rfl rfl (shB_ok rfl) (Nat.le_of_ble_eq_true rfl) rfl (AftOk.nil _) ?_
  refine .seq ?_
  refine .reg (X := Unit) (fun ζ => .of [(0, .one (.d (.v (.string (s)))))] []) [⟨[], some 2, [], []⟩] (fun k1 => ?_) ?_
  · skip
    refine .assign (.no rfl) rfl rfl rfl rfl ?_
    exact .fin () (.of (.cons rfl .nil) .nil)
  intro _
  refine .seq ?_
  refine .seq ?_
  refine .reg (X := Unit) (fun ζ => .of [(0, .one (.d (.v (.string (s))))), (5, .one (.d (.v (.int .i64 ((s.size : Int)))))), (6, .one (.d (.v (.int .i64 (0)))))] []) [⟨[0], some 4, [], []⟩, ⟨[4], some 5, [], []⟩, ⟨[], some 6, [], []⟩] (fun k2 => ?_) ?_
  · skip
    refine .move (.no rfl) rfl rfl rfl rfl ?_
    refine .lenStr (.no rfl) rfl t9 rfl rfl rfl rfl rfl ?_
    refine .move (.no rfl) rfl rfl rfl rfl ?_
    exact .fin () (.of (.cons rfl (.cons rfl (.cons rfl .nil))) .nil)
  intro _
  refine .block ?_
  refine .loop (X := Nat) (fun ζ => .of [(0, .one (.d (.v (.string (s))))), (5, .one (.d (.v (.int .i64 ((s.size : Int)))))), (6, .one (.d (.v (.int .i64 ((ζ : Int))))))] []) (fun ζ => ζ ≤ s.size ∧ allTo ζ (fun i => decide (97 ≤ byteAt s i ∧ byteAt s i ≤ 122)) = true) (fun ζ => s.size - ζ) ?_ ?_
  · skip
    exact .here 0 (.of (.cons rfl (.cons rfl (.cons (svI (show (0) = ((0 : Int)) by first | rfl | omega | exact wrap_le (by omega) (by omega) | (rw [wrap_le (by omega) (by omega)]; omega))) .nil))) .nil) (show 0 ≤ s.size ∧ allTo 0 (fun i => decide (97 ≤ byteAt s i ∧ byteAt s i ≤ 122)) = true by exact ⟨by omega, rfl⟩)
  · rintro j hI
    have hI : j ≤ s.size ∧ allTo j (fun i => decide (97 ≤ byteAt s i ∧ byteAt s i ≤ 122)) = true := hI
    refine .seq ?_
    refine .reg (X := Unit) (fun ζ => .of [(0, .one (.d (.v (.string (s))))), (5, .one (.d (.v (.int .i64 ((s.size : Int)))))), (6, .one (.d (.v (.int .i64 ((j : Int)))))), (7, .one (.d (.v (.bool (decide ((j : Int) < (s.size : Int)))))))] []) [⟨[6, 5], some 7, [], []⟩] (fun k3 => ?_) ?_
    · skip
      refine .bin (.no rfl) rfl rfl rfl rfl rfl rfl ?_
      exact .fin () (.of (.cons rfl (.cons rfl (.cons rfl (.cons rfl .nil)))) .nil)
    intro _
    refine .seq ?_
    refine .cond (t := decide ((j : Int) < (s.size : Int))) rfl (fun c0 => ?_) (fun c0 => ?_)
    · have c0 := of_decide_eq_true c0
      refine .skip ?_
      refine .seq ?_
      refine .block ?_
      refine .seq ?_
      refine .reg (X := Unit) (fun ζ => .of [(0, .one (.d (.v (.string (s))))), (3, .one (.d (.v (.int .i64 ((j : Int)))))), (5, .one (.d (.v (.int .i64 ((s.size : Int)))))), (6, .one (.d (.v (.int .i64 ((j : Int))))))] []) [⟨[6], some 8, [], []⟩, ⟨[8], some 3, [], []⟩] (fun k4 => ?_) ?_
      · skip
        refine .move (.no rfl) rfl rfl rfl rfl ?_
        refine .assign (.no rfl) rfl rfl rfl rfl ?_
        exact .fin () (.of (.cons rfl (.cons rfl (.cons rfl (.cons rfl .nil)))) .nil)
      intro _
      refine .seq ?_
      refine .reg (X := Unit) (fun ζ => .of [(0, .one (.d (.v (.string (s))))), (5, .one (.d (.v (.int .i64 ((s.size : Int)))))), (6, .one (.d (.v (.int .i64 ((j : Int)))))), (13, .one (.d (.v (.bool (!(decide ((byteAt s j) ≥ 97) && decide ((byteAt s j) ≤ 122)))))))] []) [⟨[0], some 9, [], []⟩, ⟨[3], some 10, [], []⟩, ⟨[9, 10], some 11, [], []⟩, ⟨[11], some 12, [], []⟩, ⟨[12], some 13, [], []⟩] (fun k5 => ?_) ?_
      · skip
        refine .move (.no rfl) rfl rfl rfl rfl ?_
        refine .move (.no rfl) rfl rfl rfl rfl ?_
        refine .indexStr (.no rfl) rfl (z := byteAt s j) (j) t9 rfl rfl rfl rfl rfl (b8_get (by omega)) rfl rfl ?_
        refine .call (.no rfl) rfl [] [] (c_isLetter (byteAt s j)) rfl rfl rfl rfl rfl (.cons (Reads.d _).gives .nil) rfl rfl (fun h => absurd rfl h) (.own [12, 0] .nil) (.nil) rfl rfl rfl (by simp) rfl rfl rfl ?_
        refine .un (.no rfl) rfl rfl rfl rfl rfl ?_
        exact .fin () (.of (.cons rfl (.cons rfl (.cons rfl (.cons rfl .nil)))) .nil)
      intro _
      refine .cond (t := !(decide ((byteAt s j) ≥ 97) && decide ((byteAt s j) ≤ 122))) rfl (fun c1 => ?_) (fun c1 => ?_)
      · have c1 := c1
        try simp only [Bool.or_eq_true, Bool.or_eq_false_iff, Bool.and_eq_true, Bool.and_eq_false_iff, decide_eq_true_eq, decide_eq_false_iff_not, Bool.not_eq_true', Bool.not_eq_false', bne_iff_ne, beq_iff_eq, bne_eq_false_iff_eq, beq_eq_false_iff_ne, ne_eq, Bool.not_eq_eq_eq_not, Bool.not_true, Bool.not_false] at c1
        refine .seq ?_
        refine .reg (X := Unit) (fun ζ => .of [(2, .one (.d (.v (.bool (false)))))] []) [⟨[], some 2, [], []⟩] (fun k6 => ?_) ?_
        · skip
          refine .assign (.no rfl) rfl rfl rfl rfl ?_
          exact .fin () (.of (.cons rfl .nil) .nil)
        intro _
        refine .ret ?_
        have e7 : (false) = (nmOk s) := by (simp only [nmOk, letters]; rw [allTo_fail (j := j) (by omega) (by simp only [decide_eq_false_iff_not]; omega)]; rfl)
        have hc8 := eq1 (fun z1 => SV.one (.d (.v (.bool (z1))))) e7
        show _ ∧ _
        exact ⟨.inr rfl, .done ⟨_, [], [], _, .one (c := .d (.v (.bool (nmOk s)))) (hc8) .nil, .cons (Reads.d _).gives .nil, nodupB_ok rfl, by simp, (by simp)⟩⟩
      · have c1 := c1
        try simp only [Bool.or_eq_true, Bool.or_eq_false_iff, Bool.and_eq_true, Bool.and_eq_false_iff, decide_eq_true_eq, decide_eq_false_iff_not, Bool.not_eq_true', Bool.not_eq_false', bne_iff_ne, beq_iff_eq, bne_eq_false_iff_eq, beq_eq_false_iff_ne, ne_eq, Bool.not_eq_eq_eq_not, Bool.not_true, Bool.not_false] at c1
        refine .skip ?_
        refine .reg (X := Unit) (fun ζ => .of [(0, .one (.d (.v (.string (s))))), (5, .one (.d (.v (.int .i64 ((s.size : Int)))))), (6, .one (.d (.v (.int .i64 (IntKind.wrap .i64 ((j : Int) + 1))))))] []) [⟨[6], some 14, [], []⟩, ⟨[14], some 6, [], []⟩] (fun k9 => ?_) ?_
        · skip
          refine .bin (.no rfl) rfl rfl rfl rfl rfl rfl ?_
          refine .move (.no rfl) rfl rfl rfl rfl ?_
          exact .fin () (.of (.cons rfl (.cons rfl (.cons rfl .nil))) .nil)
        intro _
        exact .here (j + 1) (.of (.cons rfl (.cons rfl (.cons (svI (show (IntKind.wrap .i64 ((j : Int) + 1)) = (((j + 1) : Int)) by first | rfl | omega | exact wrap_le (by omega) (by omega) | (rw [wrap_le (by omega) (by omega)]; omega))) .nil))) .nil) ⟨(show (j + 1) ≤ s.size ∧ allTo (j + 1) (fun i => decide (97 ≤ byteAt s i ∧ byteAt s i ≤ 122)) = true by exact ⟨by omega, allTo_step hI.2 (by simp only [decide_eq_true_eq]; omega)⟩), (show s.size - (j + 1) < s.size - j by omega)⟩
    · have c0 := of_decide_eq_false c0
      refine .exit ?_
      refine .seq ?_
      refine .reg (X := Unit) (fun ζ => .of [(2, .one (.d (.v (.bool ((inR (s.size : Int) 1 8 && !(isKey s)))))))] []) [⟨[0], some 15, [], []⟩, ⟨[15], some 16, [], []⟩, ⟨[16], some 17, [], []⟩, ⟨[17], some 18, [], []⟩, ⟨[18, 0], some 19, [], []⟩, ⟨[18, 19], some 20, [], []⟩, ⟨[18, 20], some 21, [], []⟩, ⟨[18, 21], some 22, [], []⟩, ⟨[22], some 2, [], []⟩] (fun k10 => ?_) ?_
      · skip
        refine .move (.no rfl) rfl rfl rfl rfl ?_
        refine .lenStr (.no rfl) rfl t9 rfl rfl rfl rfl rfl ?_
        refine .call (.no rfl) rfl [] [] (c_within (s.size : Int) 1 8) rfl rfl rfl rfl rfl (.cons (Reads.d _).gives (.cons (Reads.d _).gives (.cons (Reads.d _).gives .nil))) rfl rfl (fun h => absurd rfl h) (.own [17, 0] .nil) (.nil) rfl rfl rfl (by simp) rfl rfl rfl ?_
        refine .moveB (.no rfl) rfl rfl rfl rfl fun b11 g7_3 => ?_
        cases b11
        · skip
          refine .off rfl rfl rfl rfl rfl rfl rfl ?_
          refine .off rfl rfl rfl rfl rfl rfl rfl ?_
          refine .off rfl rfl rfl rfl rfl rfl rfl ?_
          refine .pick (.no rfl) rfl rfl rfl rfl rfl ?_
          refine .assign (.no rfl) rfl rfl rfl rfl ?_
          exact .fin () (.of (.cons (svB (show (false) = ((inR (s.size : Int) 1 8 && !(isKey s))) by first | (simp only [g7_3, Bool.true_or, Bool.false_or, Bool.true_and, Bool.false_and, Bool.not_true, Bool.not_false]; done) | simp [g7_3])) .nil) .nil)
        · skip
          refine .move (.on rfl rfl rfl rfl rfl) rfl rfl rfl rfl ?_
          refine .call (.on rfl rfl rfl rfl rfl) rfl [] [] (c_isWord s) rfl rfl rfl rfl rfl (.cons (Reads.d _).gives .nil) rfl rfl (fun h => absurd rfl h) (.own [20, 0] .nil) (.nil) rfl rfl rfl (by simp) rfl rfl rfl ?_
          refine .un (.on rfl rfl rfl rfl rfl) rfl rfl rfl rfl rfl ?_
          refine .pick (.no rfl) rfl rfl rfl rfl rfl ?_
          refine .assign (.no rfl) rfl rfl rfl rfl ?_
          exact .fin () (.of (.cons (svB (show (!(isKey s)) = ((inR (s.size : Int) 1 8 && !(isKey s))) by first | (simp only [g7_3, Bool.true_or, Bool.false_or, Bool.true_and, Bool.false_and, Bool.not_true, Bool.not_false]; done) | simp [g7_3])) .nil) .nil)
      intro _
      refine .ret ?_
      have e12 : ((inR (s.size : Int) 1 8 && !(isKey s))) = (nmOk s) := by (have hj : j = s.size := (by omega); subst hj; simp only [nmOk, letters]; rw [hI.2]; rfl)
      have hc13 := eq1 (fun z1 => SV.one (.d (.v (.bool (z1))))) e12
      show _ ∧ _
      exact ⟨.inr rfl, .done ⟨_, [], [], _, .one (c := .d (.v (.bool (nmOk s)))) (hc13) .nil, .cons (Reads.d _).gives .nil, nodupB_ok rfl, by simp, (by simp)⟩⟩
theorem c_isRight1 (a : Arr) : Trip Tryd.prog 134 [(true, 2)] (Arr.c a) [(false, 1)] [.v (.bool (inR a.size 1 16))] [] := by
  refine Trip.of Tryd.func134 (by decide) (c := _) rfl rfl (shB_ok rfl) (Nat.le_of_ble_eq_true rfl) rfl (AftOk.nil _) ?_
  refine .seq ?_
  refine .reg (X := Nat) (fun ζ => .of [(1, .one (.ptr [1] (ζ) 0))] [([1], (ζ, ζ, .box [.d (.v (.string (a.name))), .d (.v (.int .i64 (a.size)))]))]) [⟨[0], some 1, [], [[1]]⟩, ⟨[], some 2, [], []⟩] (fun k1 => ?_) ?_
  · skip
    refine .box (.no rfl) rfl rfl rfl rfl rfl ?_
    refine .assign (.no rfl) rfl rfl rfl rfl ?_
    exact .fin k1 (.of (.cons rfl .nil) (.cons rfl .nil))
  intro g2
  refine .seq ?_
  refine .reg (X := Unit) (fun ζ => .of [(2, .one (.d (.v (.bool (inR a.size 1 16)))))] []) [⟨[1], some 3, [], []⟩, ⟨[3], some 4, [[1]], []⟩, ⟨[4], some 5, [], []⟩, ⟨[5], some 2, [], []⟩] (fun k3 => ?_) ?_
  · skip
    refine .fieldAddrP (.no rfl) rfl t52 rfl rfl t2 rfl rfl rfl rfl ?_
    refine .load (.no rfl) rfl t2 rfl rfl (.ptr _ _ _ _ _ rfl) rfl rfl rfl rfl ?_
    refine .call (.no rfl) rfl [] [] (c_within a.size 1 16) rfl rfl rfl rfl rfl (.cons (Reads.d _).gives (.cons (Reads.d _).gives (.cons (Reads.d _).gives .nil))) rfl rfl (fun h => absurd rfl h) (.own [5, 0] .nil) (.nil) rfl rfl rfl (by simp) rfl rfl rfl ?_
    refine .assign (.no rfl) rfl rfl rfl rfl ?_
    exact .fin () (.of (.cons rfl .nil) .nil)
  intro _
  refine .ret ?_
  show _ ∧ _
  exact ⟨.inr rfl, .done ⟨_, [], [], _, .one rfl .nil, .cons (Reads.d _).gives .nil, nodupB_ok rfl, by simp, (by simp)⟩⟩
theorem c_isRight (d : Decl) (hs : ∀ x ∈ Decl.names d, x.size ≤ 9223372036854775807) (hb : d.vars.length ≤ 1048576 ∧ d.flags.length ≤ 1048576 ∧ d.arrays.length ≤ 1048576) : Trip Tryd.prog 91 [(true, 3)] (Decl.c27 d) [(false, 1)] [.v (.bool (Decl.ok d))] [] := by
  refine Trip.of Tryd.func91 (by decide) (c := _) rfl rfl (shB_ok rfl) (Nat.le_of_ble_eq_true rfl) rfl (AftOk.nil _) ?_
  refine .satA (t := 0) (i := 0) rfl rfl (fun hs1 => ?_)
  have hs1l : d.vars.length ≤ 9223372036854775807 := hs1.maplen
  refine .satA (t := 0) (i := 1) rfl rfl (fun hs2 => ?_)
  have hs2l : d.flags.length ≤ 9223372036854775807 := hs2.maplen
  refine .satA (t := 0) (i := 2) rfl rfl (fun hs3 => ?_)
  have hs3l : d.arrays.length ≤ 9223372036854775807 := hs3.maplen
  refine .seq ?_
  refine .reg (X := Nat) (fun ζ => .of [(1, .one (.ptr [1] (ζ) 0))] [([1], (ζ, ζ, .box [.d (.sl false 9 1 (List.map strc (d.vars))), .d (.sl false 9 1 (List.map strc (d.flags))), .d (.sl false 52 2 (List.map Arr.c (d.arrays)))]))]) [⟨[0], some 1, [], [[1]]⟩, ⟨[], some 2, [], []⟩] (fun k4 => ?_) ?_
  · skip
    refine .box (.no rfl) rfl rfl rfl rfl rfl ?_
    refine .assign (.no rfl) rfl rfl rfl rfl ?_
    exact .fin k4 (.of (.cons rfl .nil) (.cons rfl .nil))
  intro g5
  refine .seq ?_
  refine .reg (X := Unit) (fun ζ => .of [(1, .one (.ptr [1] (g5) 0)), (3, .one (.d (.sl false 9 1 (List.map strc (Decl.names d)))))] [([1], (g5, g5, .box [.d (.sl false 9 1 (List.map strc (d.vars))), .d (.sl false 9 1 (List.map strc (d.flags))), .d (.sl false 52 2 (List.map Arr.c (d.arrays)))]))]) [⟨[1], some 7, [[1]], []⟩, ⟨[7], some 8, [], []⟩, ⟨[8], some 3, [], []⟩] (fun k6 => ?_) ?_
  · skip
    refine .load (.no rfl) rfl t27 rfl rfl (.ptr _ _ _ _ _ rfl) rfl rfl rfl rfl ?_
    refine .call (.no rfl) rfl [] [] (c_names d (by first | assumption | omega | exact hs _ (getD_mem (by omega)))) rfl rfl rfl rfl rfl (.cons (Reads.d _).gives (.cons (Reads.d _).gives (.cons (Reads.d _).gives .nil))) rfl rfl (fun h => absurd rfl h) (.frz [8, 0] (Frz.of_erase (erase_slo _ _ _ _ _ _ strc_e)) .nil) (.nil) rfl rfl rfl (by simp) rfl rfl rfl ?_
    refine .assign (.no rfl) rfl rfl rfl rfl ?_
    exact .fin () (.of (.cons rfl (.cons rfl .nil)) (.cons rfl .nil))
  intro _
  refine .seq ?_
  refine .seq ?_
  refine .reg (X := Unit) (fun ζ => .of [(1, .one (.ptr [1] (g5) 0)), (3, .one (.d (.sl false 9 1 (List.map strc (Decl.names d))))), (9, .one (.d (.sl false 9 1 (List.map strc (Decl.names d))))), (10, .one (.d (.v (.int .i64 (((Decl.names d).length : Int)))))), (11, .one (.d (.v (.int .i64 (0)))))] [([1], (g5, g5, .box [.d (.sl false 9 1 (List.map strc (d.vars))), .d (.sl false 9 1 (List.map strc (d.flags))), .d (.sl false 52 2 (List.map Arr.c (d.arrays)))]))]) [⟨[3], some 9, [], []⟩, ⟨[9], some 10, [], []⟩, ⟨[], some 11, [], []⟩] (fun k7 => ?_) ?_
  · skip
    refine .move (.no rfl) rfl rfl rfl rfl ?_
    refine .len (.no rfl) rfl (z := ((Decl.names d).length : Int)) t24 rfl rfl rfl (.d _ _) (map_len _ _) rfl ?_
    refine .move (.no rfl) rfl rfl rfl rfl ?_
    exact .fin () (.of (.cons rfl (.cons rfl (.cons rfl (.cons rfl (.cons rfl .nil))))) (.cons rfl .nil))
  intro _
  refine .block ?_
  refine .loop (X := Nat) (fun ζ => .of [(1, .one (.ptr [1] (g5) 0)), (3, .one (.d (.sl false 9 1 (List.map strc (Decl.names d))))), (9, .one (.d (.sl false 9 1 (List.map strc (Decl.names d))))), (10, .one (.d (.v (.int .i64 (((Decl.names d).length : Int)))))), (11, .one (.d (.v (.int .i64 ((ζ : Int))))))] [([1], (g5, g5, .box [.d (.sl false 9 1 (List.map strc (d.vars))), .d (.sl false 9 1 (List.map strc (d.flags))), .d (.sl false 52 2 (List.map Arr.c (d.arrays)))]))]) (fun ζ => ζ ≤ (Decl.names d).length ∧ allTo ζ (nameOk (Decl.names d)) = true) (fun ζ => (Decl.names d).length - ζ) ?_ ?_
  · skip
    exact .here 0 (.of (.cons rfl (.cons rfl (.cons rfl (.cons rfl (.cons (svI (show (0) = ((0 : Int)) by first | rfl | omega | exact wrap_le (by omega) (by omega) | (rw [wrap_le (by omega) (by omega)]; omega))) .nil))))) (.cons rfl .nil)) (show 0 ≤ (Decl.names d).length ∧ allTo 0 (nameOk (Decl.names d)) = true by exact ⟨by omega, rfl⟩)
  · rintro j hI
    have hI : j ≤ (Decl.names d).length ∧ allTo j (nameOk (Decl.names d)) = true := hI
    have hn9 : (Decl.names d).length ≤ 3145728 := by simp [Decl.names]; omega
    refine .seq ?_
    refine .reg (X := Unit) (fun ζ => .of [(1, .one (.ptr [1] (g5) 0)), (3, .one (.d (.sl false 9 1 (List.map strc (Decl.names d))))), (9, .one (.d (.sl false 9 1 (List.map strc (Decl.names d))))), (10, .one (.d (.v (.int .i64 (((Decl.names d).length : Int)))))), (11, .one (.d (.v (.int .i64 ((j : Int)))))), (12, .one (.d (.v (.bool (decide ((j : Int) < ((Decl.names d).length : Int)))))))] [([1], (g5, g5, .box [.d (.sl false 9 1 (List.map strc (d.vars))), .d (.sl false 9 1 (List.map strc (d.flags))), .d (.sl false 52 2 (List.map Arr.c (d.arrays)))]))]) [⟨[11, 10], some 12, [], []⟩] (fun k8 => ?_) ?_
    · skip
      refine .bin (.no rfl) rfl rfl rfl rfl rfl rfl ?_
      exact .fin () (.of (.cons rfl (.cons rfl (.cons rfl (.cons rfl (.cons rfl (.cons rfl .nil)))))) (.cons rfl .nil))
    intro _
    refine .seq ?_
    refine .cond (t := decide ((j : Int) < ((Decl.names d).length : Int))) rfl (fun c0 => ?_) (fun c0 => ?_)
    · have c0 := of_decide_eq_true c0
      refine .skip ?_
      refine .seq ?_
      refine .block ?_
      refine .seq ?_
      refine .reg (X := Unit) (fun ζ => .of [(1, .one (.ptr [1] (g5) 0)), (3, .one (.d (.sl false 9 1 (List.map strc (Decl.names d))))), (4, .one (.d (.v (.int .i64 ((j : Int)))))), (5, .one (.d (.v (.string ((Decl.names d).getD (j) default))))), (9, .one (.d (.sl false 9 1 (List.map strc (Decl.names d))))), (10, .one (.d (.v (.int .i64 (((Decl.names d).length : Int)))))), (11, .one (.d (.v (.int .i64 ((j : Int))))))] [([1], (g5, g5, .box [.d (.sl false 9 1 (List.map strc (d.vars))), .d (.sl false 9 1 (List.map strc (d.flags))), .d (.sl false 52 2 (List.map Arr.c (d.arrays)))]))]) [⟨[11], some 13, [], []⟩, ⟨[9, 11], some 14, [], []⟩, ⟨[14], some 15, [], []⟩, ⟨[13], some 4, [], []⟩, ⟨[15], some 5, [], []⟩] (fun k9 => ?_) ?_
      · skip
        refine .move (.no rfl) rfl rfl rfl rfl ?_
        refine .indexAddr (.no rfl) rfl (j) t24 rfl t9 rfl rfl rfl (.d _ _) rfl rfl rfl (map_get (by omega)) rfl rfl ?_
        refine .load (.no rfl) rfl t9 rfl rfl (.d _) rfl rfl rfl rfl ?_
        refine .assign (.no rfl) rfl rfl rfl rfl ?_
        refine .assign (.no rfl) rfl rfl rfl rfl ?_
        exact .fin () (.of (.cons rfl (.cons rfl (.cons rfl (.cons rfl (.cons rfl (.cons rfl (.cons rfl .nil))))))) (.cons rfl .nil))
      intro _
      refine .seq ?_
      refine .reg (X := Unit) (fun ζ => .of [(1, .one (.ptr [1] (g5) 0)), (3, .one (.d (.sl false 9 1 (List.map strc (Decl.names d))))), (9, .one (.d (.sl false 9 1 (List.map strc (Decl.names d))))), (10, .one (.d (.v (.int .i64 (((Decl.names d).length : Int)))))), (11, .one (.d (.v (.int .i64 ((j : Int)))))), (25, .one (.d (.v (.bool ((!(nmOk ((Decl.names d).getD (j) default)) || ((Decl.names d).take j).any fun x => strEq ((Decl.names d).getD (j) default) x))))))] [([1], (g5, g5, .box [.d (.sl false 9 1 (List.map strc (d.vars))), .d (.sl false 9 1 (List.map strc (d.flags))), .d (.sl false 52 2 (List.map Arr.c (d.arrays)))]))]) [⟨[5], some 16, [], []⟩, ⟨[16], some 17, [], []⟩, ⟨[17], some 18, [], []⟩, ⟨[18], some 19, [], []⟩, ⟨[19, 3], some 20, [], []⟩, ⟨[19, 4], some 21, [], []⟩, ⟨[19, 20, 21], some 22, [], []⟩, ⟨[19, 5], some 23, [], []⟩, ⟨[19, 22, 23], some 24, [], []⟩, ⟨[19, 24], some 25, [], []⟩] (fun k10 => ?_) ?_
      · skip
        refine .move (.no rfl) rfl rfl rfl rfl ?_
        refine .call (.no rfl) rfl [] [] (c_isName ((Decl.names d).getD (j) default) (by first | assumption | omega | exact hs _ (getD_mem (by omega)))) rfl rfl rfl rfl rfl (.cons (Reads.d _).gives .nil) rfl rfl (fun h => absurd rfl h) (.own [17, 0] .nil) (.nil) rfl rfl rfl (by simp) rfl rfl rfl ?_
        refine .un (.no rfl) rfl rfl rfl rfl rfl ?_
        refine .moveB (.no rfl) rfl rfl rfl rfl fun b11 g5_3 => ?_
        cases b11
        · skip
          refine .move (.on rfl rfl rfl rfl rfl) rfl rfl rfl rfl ?_
          refine .move (.on rfl rfl rfl rfl rfl) rfl rfl rfl rfl ?_
          refine .slice (.on rfl rfl rfl rfl rfl) rfl (lv := 0) (hv := j) (m := 0) t24 rfl t9 rfl rfl (.d _ _) rfl (by intro _ _ h; cases h) (by exact rfl) (by exact ⟨_, rfl⟩) (Nat.zero_le _) (le_map (by omega)) (cut_d0 _ _ _ _ _ _ _ _ _) rfl ?_
          refine .move (.on rfl rfl rfl rfl rfl) rfl rfl rfl rfl ?_
          refine .call (.on rfl rfl rfl rfl rfl) rfl [] [] (c_ContainsS ((Decl.names d).take j) ((Decl.names d).getD (j) default)) rfl rfl rfl rfl rfl (.cons (Reads.d _).gives (.cons (Reads.d _).gives .nil)) rfl rfl (fun h => absurd rfl h) (.own [24, 0] .nil) (.nil) rfl rfl rfl (by simp) rfl rfl rfl ?_
          refine .pick (.no rfl) rfl rfl rfl rfl rfl ?_
          exact .fin () (.of (.cons rfl (.cons rfl (.cons rfl (.cons rfl (.cons rfl (.cons (svB (show (((Decl.names d).take j).any fun x => strEq ((Decl.names d).getD (j) default) x) = ((!(nmOk ((Decl.names d).getD (j) default)) || ((Decl.names d).take j).any fun x => strEq ((Decl.names d).getD (j) default) x)) by first | (simp only [g5_3, Bool.true_or, Bool.false_or, Bool.true_and, Bool.false_and, Bool.not_true, Bool.not_false]; done) | simp [g5_3])) .nil)))))) (.cons rfl .nil))
        · skip
          refine .off rfl rfl rfl rfl rfl rfl rfl ?_
          refine .off rfl rfl rfl rfl rfl rfl rfl ?_
          refine .off rfl rfl rfl rfl rfl rfl rfl ?_
          refine .off rfl rfl rfl rfl rfl rfl rfl ?_
          refine .off rfl rfl rfl rfl rfl rfl rfl ?_
          refine .pick (.no rfl) rfl rfl rfl rfl rfl ?_
          exact .fin () (.of (.cons rfl (.cons rfl (.cons rfl (.cons rfl (.cons rfl (.cons (svB (show (true) = ((!(nmOk ((Decl.names d).getD (j) default)) || ((Decl.names d).take j).any fun x => strEq ((Decl.names d).getD (j) default) x)) by first | (simp only [g5_3, Bool.true_or, Bool.false_or, Bool.true_and, Bool.false_and, Bool.not_true, Bool.not_false]; done) | simp [g5_3])) .nil)))))) (.cons rfl .nil))
      intro _
      refine .cond (t := (!(nmOk ((Decl.names d).getD (j) default)) || ((Decl.names d).take j).any fun x => strEq ((Decl.names d).getD (j) default) x)) rfl (fun c1 => ?_) (fun c1 => ?_)
      · have c1 := c1
        try simp only [Bool.or_eq_true, Bool.or_eq_false_iff, Bool.and_eq_true, Bool.and_eq_false_iff, decide_eq_true_eq, decide_eq_false_iff_not, Bool.not_eq_true', Bool.not_eq_false', bne_iff_ne, beq_iff_eq, bne_eq_false_iff_eq, beq_eq_false_iff_ne, ne_eq, Bool.not_eq_eq_eq_not, Bool.not_true, Bool.not_false] at c1
        refine .seq ?_
        refine .reg (X := Unit) (fun ζ => .of [(2, .one (.d (.v (.bool (false)))))] []) [⟨[], some 2, [], []⟩] (fun k12 => ?_) ?_
        · skip
          refine .assign (.no rfl) rfl rfl rfl rfl ?_
          exact .fin () (.of (.cons rfl .nil) .nil)
        intro _
        refine .ret ?_
        have e13 : (false) = (Decl.ok d) := by exact (Decl.ok_name2 (j := j) (by omega) c1).symm
        have hc14 := eq1 (fun z1 => SV.one (.d (.v (.bool (z1))))) e13
        show _ ∧ _
        exact ⟨.inr rfl, .done ⟨_, [], [], _, .one (c := .d (.v (.bool (Decl.ok d)))) (hc14) .nil, .cons (Reads.d _).gives .nil, nodupB_ok rfl, by simp, (by simp)⟩⟩
      · have c1 := c1
        try simp only [Bool.or_eq_true, Bool.or_eq_false_iff, Bool.and_eq_true, Bool.and_eq_false_iff, decide_eq_true_eq, decide_eq_false_iff_not, Bool.not_eq_true', Bool.not_eq_false', bne_iff_ne, beq_iff_eq, bne_eq_false_iff_eq, beq_eq_false_iff_ne, ne_eq, Bool.not_eq_eq_eq_not, Bool.not_true, Bool.not_false] at c1
        refine .skip ?_
        refine .reg (X := Unit) (fun ζ => .of [(1, .one (.ptr [1] (g5) 0)), (3, .one (.d (.sl false 9 1 (List.map strc (Decl.names d))))), (9, .one (.d (.sl false 9 1 (List.map strc (Decl.names d))))), (10, .one (.d (.v (.int .i64 (((Decl.names d).length : Int)))))), (11, .one (.d (.v (.int .i64 (IntKind.wrap .i64 ((j : Int) + 1))))))] [([1], (g5, g5, .box [.d (.sl false 9 1 (List.map strc (d.vars))), .d (.sl false 9 1 (List.map strc (d.flags))), .d (.sl false 52 2 (List.map Arr.c (d.arrays)))]))]) [⟨[11], some 26, [], []⟩, ⟨[26], some 11, [], []⟩] (fun k15 => ?_) ?_
        · skip
          refine .bin (.no rfl) rfl rfl rfl rfl rfl rfl ?_
          refine .move (.no rfl) rfl rfl rfl rfl ?_
          exact .fin () (.of (.cons rfl (.cons rfl (.cons rfl (.cons rfl (.cons rfl .nil))))) (.cons rfl .nil))
        intro _
        exact .here (j + 1) (.of (.cons rfl (.cons rfl (.cons rfl (.cons rfl (.cons (svI (show (IntKind.wrap .i64 ((j : Int) + 1)) = (((j + 1) : Int)) by first | rfl | omega | exact wrap_le (by omega) (by omega) | (rw [wrap_le (by omega) (by omega)]; omega))) .nil))))) (.cons rfl .nil)) ⟨(show (j + 1) ≤ (Decl.names d).length ∧ allTo (j + 1) (nameOk (Decl.names d)) = true by exact ⟨by omega, allTo_step hI.2 (nameOk_of2 c1)⟩), (show (Decl.names d).length - (j + 1) < (Decl.names d).length - j by omega)⟩
    · have c0 := of_decide_eq_false c0
      refine .exit ?_
      refine .seq ?_
      refine .reg (X := Unit) (fun ζ => .of [(1, .one (.ptr [1] (g5) 0)), (6, .one (.d (.fn 134 [] [])))] [([1], (g5, g5, .box [.d (.sl false 9 1 (List.map strc (d.vars))), .d (.sl false 9 1 (List.map strc (d.flags))), .d (.sl false 52 2 (List.map Arr.c (d.arrays)))]))]) [⟨[], some 6, [], []⟩] (fun k16 => ?_) ?_
      · skip
        refine .assign (.no rfl) rfl rfl rfl rfl ?_
        exact .fin () (.of (.cons rfl (.cons rfl .nil)) (.cons rfl .nil))
      intro _
      refine .seq ?_
      refine .reg (X := Unit) (fun ζ => .of [(2, .one (.d (.v (.bool ((((decide ((d.vars.length : Int) ≤ 5) && decide ((d.flags.length : Int) ≤ 3)) && decide ((d.arrays.length : Int) ≤ 2)) && d.arrays.all (fun x0 => inR x0.size 1 16)))))))] []) [⟨[1], some 27, [], []⟩, ⟨[27], some 28, [[1]], []⟩, ⟨[28], some 29, [], []⟩, ⟨[29], some 30, [], []⟩, ⟨[30], some 31, [], []⟩, ⟨[31, 1], some 32, [], []⟩, ⟨[31, 32], some 33, [[1]], []⟩, ⟨[31, 33], some 34, [], []⟩, ⟨[31, 34], some 35, [], []⟩, ⟨[31, 35], some 36, [], []⟩, ⟨[36], some 37, [], []⟩, ⟨[37, 1], some 38, [], []⟩, ⟨[37, 38], some 39, [[1]], []⟩, ⟨[37, 39], some 40, [], []⟩, ⟨[37, 40], some 41, [], []⟩, ⟨[37, 41], some 42, [], []⟩, ⟨[42], some 43, [], []⟩, ⟨[43, 1], some 44, [], []⟩, ⟨[43, 44], some 45, [[1]], []⟩, ⟨[43, 6], some 46, [], []⟩, ⟨[43, 45, 46], some 47, [], []⟩, ⟨[43, 47], some 48, [], []⟩, ⟨[48], some 2, [], []⟩] (fun k17 => ?_) ?_
      · skip
        refine .fieldAddrP (.no rfl) rfl t27 rfl rfl t24 rfl rfl rfl rfl ?_
        refine .load (.no rfl) rfl t24 rfl rfl (.ptr _ _ _ _ _ rfl) rfl rfl rfl rfl ?_
        refine .len (.no rfl) rfl (z := (d.vars.length : Int)) t24 rfl rfl rfl (.d _ _) (map_len _ _) rfl ?_
        refine .bin (.no rfl) rfl rfl rfl rfl rfl rfl ?_
        refine .moveB (.no rfl) rfl rfl rfl rfl fun b18 g9_4 => ?_
        cases b18
        · skip
          refine .off rfl rfl rfl rfl rfl rfl rfl ?_
          refine .off rfl rfl rfl rfl rfl rfl rfl ?_
          refine .off rfl rfl rfl rfl rfl rfl rfl ?_
          refine .off rfl rfl rfl rfl rfl rfl rfl ?_
          refine .pick (.no rfl) rfl rfl rfl rfl rfl ?_
          refine .move (.no rfl) rfl rfl rfl rfl ?_
          refine .off rfl rfl rfl rfl rfl rfl rfl ?_
          refine .off rfl rfl rfl rfl rfl rfl rfl ?_
          refine .off rfl rfl rfl rfl rfl rfl rfl ?_
          refine .off rfl rfl rfl rfl rfl rfl rfl ?_
          refine .pick (.no rfl) rfl rfl rfl rfl rfl ?_
          refine .move (.no rfl) rfl rfl rfl rfl ?_
          refine .off rfl rfl rfl rfl rfl rfl rfl ?_
          refine .off rfl rfl rfl rfl rfl rfl rfl ?_
          refine .off rfl rfl rfl rfl rfl rfl rfl ?_
          refine .off rfl rfl rfl rfl rfl rfl rfl ?_
          refine .pick (.no rfl) rfl rfl rfl rfl rfl ?_
          refine .assign (.no rfl) rfl rfl rfl rfl ?_
          exact .fin () (.of (.cons (svB (show (false) = ((((decide ((d.vars.length : Int) ≤ 5) && decide ((d.flags.length : Int) ≤ 3)) && decide ((d.arrays.length : Int) ≤ 2)) && d.arrays.all (fun x0 => inR x0.size 1 16))) by first | (simp only [g9_4, Bool.true_or, Bool.false_or, Bool.true_and, Bool.false_and, Bool.not_true, Bool.not_false]; done) | simp [g9_4])) .nil) .nil)
        · skip
          refine .fieldAddrP (.on rfl rfl rfl rfl rfl) rfl t27 rfl rfl t24 rfl rfl rfl rfl ?_
          refine .load (.on rfl rfl rfl rfl rfl) rfl t24 rfl rfl (.ptr _ _ _ _ _ rfl) rfl rfl rfl rfl ?_
          refine .len (.on rfl rfl rfl rfl rfl) rfl (z := (d.flags.length : Int)) t24 rfl rfl rfl (.d _ _) (map_len _ _) rfl ?_
          refine .bin (.on rfl rfl rfl rfl rfl) rfl rfl rfl rfl rfl rfl ?_
          refine .pick (.no rfl) rfl rfl rfl rfl rfl ?_
          refine .moveB (.no rfl) rfl rfl rfl rfl fun b19 g9_10 => ?_
          cases b19
          · skip
            refine .off rfl rfl rfl rfl rfl rfl rfl ?_
            refine .off rfl rfl rfl rfl rfl rfl rfl ?_
            refine .off rfl rfl rfl rfl rfl rfl rfl ?_
            refine .off rfl rfl rfl rfl rfl rfl rfl ?_
            refine .pick (.no rfl) rfl rfl rfl rfl rfl ?_
            refine .move (.no rfl) rfl rfl rfl rfl ?_
            refine .off rfl rfl rfl rfl rfl rfl rfl ?_
            refine .off rfl rfl rfl rfl rfl rfl rfl ?_
            refine .off rfl rfl rfl rfl rfl rfl rfl ?_
            refine .off rfl rfl rfl rfl rfl rfl rfl ?_
            refine .pick (.no rfl) rfl rfl rfl rfl rfl ?_
            refine .assign (.no rfl) rfl rfl rfl rfl ?_
            exact .fin () (.of (.cons (svB (show (false) = ((((decide ((d.vars.length : Int) ≤ 5) && decide ((d.flags.length : Int) ≤ 3)) && decide ((d.arrays.length : Int) ≤ 2)) && d.arrays.all (fun x0 => inR x0.size 1 16))) by first | (simp only [g9_4, g9_10, Bool.true_or, Bool.false_or, Bool.true_and, Bool.false_and, Bool.not_true, Bool.not_false]; done) | simp [g9_4, g9_10])) .nil) .nil)
          · skip
            refine .fieldAddrP (.on rfl rfl rfl rfl rfl) rfl t27 rfl rfl t25 rfl rfl rfl rfl ?_
            refine .load (.on rfl rfl rfl rfl rfl) rfl t25 rfl rfl (.ptr _ _ _ _ _ rfl) rfl rfl rfl rfl ?_
            refine .len (.on rfl rfl rfl rfl rfl) rfl (z := (d.arrays.length : Int)) t25 rfl rfl rfl (.d _ _) (map_len _ _) rfl ?_
            refine .bin (.on rfl rfl rfl rfl rfl) rfl rfl rfl rfl rfl rfl ?_
            refine .pick (.no rfl) rfl rfl rfl rfl rfl ?_
            refine .moveB (.no rfl) rfl rfl rfl rfl fun b20 g9_16 => ?_
            cases b20
            · skip
              refine .off rfl rfl rfl rfl rfl rfl rfl ?_
              refine .off rfl rfl rfl rfl rfl rfl rfl ?_
              refine .off rfl rfl rfl rfl rfl rfl rfl ?_
              refine .off rfl rfl rfl rfl rfl rfl rfl ?_
              refine .pick (.no rfl) rfl rfl rfl rfl rfl ?_
              refine .assign (.no rfl) rfl rfl rfl rfl ?_
              exact .fin () (.of (.cons (svB (show (false) = ((((decide ((d.vars.length : Int) ≤ 5) && decide ((d.flags.length : Int) ≤ 3)) && decide ((d.arrays.length : Int) ≤ 2)) && d.arrays.all (fun x0 => inR x0.size 1 16))) by first | (simp only [g9_4, g9_10, g9_16, Bool.true_or, Bool.false_or, Bool.true_and, Bool.false_and, Bool.not_true, Bool.not_false]; done) | simp [g9_4, g9_10, g9_16])) .nil) .nil)
            · skip
              refine .fieldAddrP (.on rfl rfl rfl rfl rfl) rfl t27 rfl rfl t25 rfl rfl rfl rfl ?_
              refine .load (.on rfl rfl rfl rfl rfl) rfl t25 rfl rfl (.ptr _ _ _ _ _ rfl) rfl rfl rfl rfl ?_
              refine .move (.on rfl rfl rfl rfl rfl) rfl rfl rfl rfl ?_
              refine .call (.on rfl rfl rfl rfl rfl) rfl [] [] (c_areAllA d.arrays 134 [] [] (fun x0 => inR x0.size 1 16) (fun x0 => c_isRight1 x0)) rfl rfl rfl rfl rfl (.cons (Reads.d _).gives (.cons (Reads.d _).gives .nil)) rfl rfl (fun h => absurd rfl h) (.own [47, 0] .nil) (.nil) rfl rfl rfl (by simp) rfl rfl rfl ?_
              refine .pick (.no rfl) rfl rfl rfl rfl rfl ?_
              refine .assign (.no rfl) rfl rfl rfl rfl ?_
              exact .fin () (.of (.cons (svB (show (d.arrays.all (fun x0 => inR x0.size 1 16)) = ((((decide ((d.vars.length : Int) ≤ 5) && decide ((d.flags.length : Int) ≤ 3)) && decide ((d.arrays.length : Int) ≤ 2)) && d.arrays.all (fun x0 => inR x0.size 1 16))) by first | (simp only [g9_4, g9_10, g9_16, Bool.true_or, Bool.false_or, Bool.true_and, Bool.false_and, Bool.not_true, Bool.not_false]; done) | simp [g9_4, g9_10, g9_16])) .nil) .nil)
      intro _
      refine .ret ?_
      have e21 : ((((decide ((d.vars.length : Int) ≤ 5) && decide ((d.flags.length : Int) ≤ 3)) && decide ((d.arrays.length : Int) ≤ 2)) && d.arrays.all (fun x0 => inR x0.size 1 16))) = (Decl.ok d) := by exact Decl.ok_right (j := j) (by omega) hI.2
      have hc22 := eq1 (fun z1 => SV.one (.d (.v (.bool (z1))))) e21
      show _ ∧ _
      exact ⟨.inr rfl, .done ⟨_, [], [], _, .one (c := .d (.v (.bool (Decl.ok d)))) (hc22) .nil, .cons (Reads.d _).gives .nil, nodupB_ok rfl, by simp, (by simp)⟩⟩
theorem c_isEnv (d : Decl) (e : Env) : Trip Tryd.prog 92 [(true, 3), (true, 3)] (Decl.c27 d ++ Env.c30 e) [(false, 1)] [.v (.bool (Env.okIn d e))] [] := by
  refine Trip.of Tryd.func92 (by decide) (c := _) rfl rfl (shB_ok rfl) (Nat.le_of_ble_eq_true rfl) rfl (AftOk.nil _) ?_
  refine .satA (t := 0) (i := 0) rfl rfl (fun hs1 => ?_)
  have hs1l : d.vars.length ≤ 9223372036854775807 := hs1.maplen
  refine .satA (t := 0) (i := 1) rfl rfl (fun hs2 => ?_)
  have hs2l : d.flags.length ≤ 9223372036854775807 := hs2.maplen
  refine .satA (t := 0) (i := 2) rfl rfl (fun hs3 => ?_)
  have hs3l : d.arrays.length ≤ 9223372036854775807 := hs3.maplen
  refine .satA (t := 1) (i := 1) rfl rfl (fun hs4 => ?_)
  have hs4l : e.ints.length ≤ 9223372036854775807 := hs4.maplen
  refine .satA (t := 1) (i := 2) rfl rfl (fun hs5 => ?_)
  have hs5l : e.arrs.length ≤ 9223372036854775807 := hs5.maplen
  refine .seq ?_
  refine .reg (X := Nat × Nat) (fun ζ => .of [(2, .one (.ptr [2] (ζ.1) 0)), (3, .one (.ptr [3] (ζ.2) 0))] [([2], (ζ.1, ζ.1, .box [.d (.sl false 9 1 (List.map strc (d.vars))), .d (.sl false 9 1 (List.map strc (d.flags))), .d (.sl false 52 2 (List.map Arr.c (d.arrays)))])), ([3], (ζ.2, ζ.2, .box [.d (.v (.bool (e.live))), .d (.sl false 39 2 (List.map Iv.c (e.ints))), .d (.sl false 39 2 (List.map Iv.c (e.arrs)))]))]) [⟨[0], some 2, [], [[2]]⟩, ⟨[1], some 3, [], [[3]]⟩, ⟨[], some 4, [], []⟩] (fun k6 => ?_) ?_
  · skip
    refine .box (.no rfl) rfl rfl rfl rfl rfl ?_
    refine .box (.no rfl) rfl rfl rfl rfl rfl ?_
    refine .assign (.no rfl) rfl rfl rfl rfl ?_
    exact .fin (k6, k6 + 1) (.of (.cons rfl (.cons rfl .nil)) (.cons rfl (.cons rfl .nil)))
  rintro ⟨g7, g8⟩
  refine .seq ?_
  refine .seq ?_
  refine .reg (X := Unit) (fun ζ => .of [(2, .one (.ptr [2] (g7) 0)), (3, .one (.ptr [3] (g8) 0)), (7, .one (.d (.v (.bool (!e.live)))))] [([2], (g7, g7, .box [.d (.sl false 9 1 (List.map strc (d.vars))), .d (.sl false 9 1 (List.map strc (d.flags))), .d (.sl false 52 2 (List.map Arr.c (d.arrays)))])), ([3], (g8, g8, .box [.d (.v (.bool (e.live))), .d (.sl false 39 2 (List.map Iv.c (e.ints))), .d (.sl false 39 2 (List.map Iv.c (e.arrs)))]))]) [⟨[3], some 5, [], []⟩, ⟨[5], some 6, [[3]], []⟩, ⟨[6], some 7, [], []⟩] (fun k9 => ?_) ?_
  · skip
    refine .fieldAddrP (.no rfl) rfl t30 rfl rfl t4 rfl rfl rfl rfl ?_
    refine .load (.no rfl) rfl t4 rfl rfl (.ptr _ _ _ _ _ rfl) rfl rfl rfl rfl ?_
    refine .un (.no rfl) rfl rfl rfl rfl rfl ?_
    exact .fin () (.of (.cons rfl (.cons rfl (.cons rfl .nil))) (.cons rfl (.cons rfl .nil)))
  intro _
  refine .cond (t := !e.live) rfl (fun c0 => ?_) (fun c0 => ?_)
  · have c0 := c0
    try simp only [Bool.or_eq_true, Bool.or_eq_false_iff, Bool.and_eq_true, Bool.and_eq_false_iff, decide_eq_true_eq, decide_eq_false_iff_not, Bool.not_eq_true', Bool.not_eq_false', bne_iff_ne, beq_iff_eq, bne_eq_false_iff_eq, beq_eq_false_iff_ne, ne_eq, Bool.not_eq_eq_eq_not, Bool.not_true, Bool.not_false] at c0
    refine .seq ?_
    refine .reg (X := Unit) (fun ζ => .of [(4, .one (.d (.v (.bool (((e.ints.length : Int) == 0 && (e.arrs.length : Int) == 0))))))] []) [⟨[3], some 8, [], []⟩, ⟨[8], some 9, [[3]], []⟩, ⟨[9], some 10, [], []⟩, ⟨[10], some 11, [], []⟩, ⟨[11], some 12, [], []⟩, ⟨[12, 3], some 13, [], []⟩, ⟨[12, 13], some 14, [[3]], []⟩, ⟨[12, 14], some 15, [], []⟩, ⟨[12, 15], some 16, [], []⟩, ⟨[12, 16], some 17, [], []⟩, ⟨[17], some 4, [], []⟩] (fun k10 => ?_) ?_
    · skip
      refine .fieldAddrP (.no rfl) rfl t30 rfl rfl t28 rfl rfl rfl rfl ?_
      refine .load (.no rfl) rfl t28 rfl rfl (.ptr _ _ _ _ _ rfl) rfl rfl rfl rfl ?_
      refine .len (.no rfl) rfl (z := (e.ints.length : Int)) t28 rfl rfl rfl (.d _ _) (map_len _ _) rfl ?_
      refine .bin (.no rfl) rfl rfl rfl rfl rfl rfl ?_
      refine .moveB (.no rfl) rfl rfl rfl rfl fun b11 g2_4 => ?_
      cases b11
      · skip
        refine .off rfl rfl rfl rfl rfl rfl rfl ?_
        refine .off rfl rfl rfl rfl rfl rfl rfl ?_
        refine .off rfl rfl rfl rfl rfl rfl rfl ?_
        refine .off rfl rfl rfl rfl rfl rfl rfl ?_
        refine .pick (.no rfl) rfl rfl rfl rfl rfl ?_
        refine .assign (.no rfl) rfl rfl rfl rfl ?_
        exact .fin () (.of (.cons (svB (show (false) = (((e.ints.length : Int) == 0 && (e.arrs.length : Int) == 0)) by first | (simp only [g2_4, Bool.true_or, Bool.false_or, Bool.true_and, Bool.false_and, Bool.not_true, Bool.not_false]; done) | simp [g2_4])) .nil) .nil)
      · skip
        refine .fieldAddrP (.on rfl rfl rfl rfl rfl) rfl t30 rfl rfl t28 rfl rfl rfl rfl ?_
        refine .load (.on rfl rfl rfl rfl rfl) rfl t28 rfl rfl (.ptr _ _ _ _ _ rfl) rfl rfl rfl rfl ?_
        refine .len (.on rfl rfl rfl rfl rfl) rfl (z := (e.arrs.length : Int)) t28 rfl rfl rfl (.d _ _) (map_len _ _) rfl ?_
        refine .bin (.on rfl rfl rfl rfl rfl) rfl rfl rfl rfl rfl rfl ?_
        refine .pick (.no rfl) rfl rfl rfl rfl rfl ?_
        refine .assign (.no rfl) rfl rfl rfl rfl ?_
        exact .fin () (.of (.cons (svB (show ((e.arrs.length : Int) == 0) = (((e.ints.length : Int) == 0 && (e.arrs.length : Int) == 0)) by first | (simp only [g2_4, Bool.true_or, Bool.false_or, Bool.true_and, Bool.false_and, Bool.not_true, Bool.not_false]; done) | simp [g2_4])) .nil) .nil)
    intro _
    refine .ret ?_
    have e12 : (((e.ints.length : Int) == 0 && (e.arrs.length : Int) == 0)) = (Env.okIn d e) := by simp [Env.okIn, c0, Bool.and_assoc]
    have hc13 := eq1 (fun z1 => SV.one (.d (.v (.bool (z1))))) e12
    show _ ∧ _
    exact ⟨.inr rfl, .done ⟨_, [], [], _, .one (c := .d (.v (.bool (Env.okIn d e)))) (hc13) .nil, .cons (Reads.d _).gives .nil, nodupB_ok rfl, by simp, (by simp)⟩⟩
  · have c0 := c0
    try simp only [Bool.or_eq_true, Bool.or_eq_false_iff, Bool.and_eq_true, Bool.and_eq_false_iff, decide_eq_true_eq, decide_eq_false_iff_not, Bool.not_eq_true', Bool.not_eq_false', bne_iff_ne, beq_iff_eq, bne_eq_false_iff_eq, beq_eq_false_iff_ne, ne_eq, Bool.not_eq_eq_eq_not, Bool.not_true, Bool.not_false] at c0
    refine .skip ?_
    refine .seq ?_
    refine .reg (X := Unit) (fun ζ => .of [(4, .one (.d (.v (.bool (((((e.ints.length : Int) == (d.vars.length : Int) && (e.arrs.length : Int) == (d.arrays.length : Int)) && e.ints.all (fun x0 => Iv.ok x0)) && e.arrs.all (fun x0 => Iv.ok x0)))))))] []) [⟨[3], some 18, [], []⟩, ⟨[18], some 19, [[3]], []⟩, ⟨[19], some 20, [], []⟩, ⟨[2], some 21, [], []⟩, ⟨[21], some 22, [[2]], []⟩, ⟨[22], some 23, [], []⟩, ⟨[20, 23], some 24, [], []⟩, ⟨[24], some 25, [], []⟩, ⟨[25, 3], some 26, [], []⟩, ⟨[25, 26], some 27, [[3]], []⟩, ⟨[25, 27], some 28, [], []⟩, ⟨[25, 2], some 29, [], []⟩, ⟨[25, 29], some 30, [[2]], []⟩, ⟨[25, 30], some 31, [], []⟩, ⟨[25, 28, 31], some 32, [], []⟩, ⟨[25, 32], some 33, [], []⟩, ⟨[33], some 34, [], []⟩, ⟨[34, 3], some 35, [], []⟩, ⟨[34, 35], some 36, [[3]], []⟩, ⟨[34, 36], some 37, [], []⟩, ⟨[34, 37], some 38, [], []⟩, ⟨[38], some 39, [], []⟩, ⟨[39, 3], some 40, [], []⟩, ⟨[39, 40], some 41, [[3]], []⟩, ⟨[39, 41], some 42, [], []⟩, ⟨[39, 42], some 43, [], []⟩, ⟨[43], some 4, [], []⟩] (fun k14 => ?_) ?_
    · skip
      refine .fieldAddrP (.no rfl) rfl t30 rfl rfl t28 rfl rfl rfl rfl ?_
      refine .load (.no rfl) rfl t28 rfl rfl (.ptr _ _ _ _ _ rfl) rfl rfl rfl rfl ?_
      refine .len (.no rfl) rfl (z := (e.ints.length : Int)) t28 rfl rfl rfl (.d _ _) (map_len _ _) rfl ?_
      refine .fieldAddrP (.no rfl) rfl t27 rfl rfl t24 rfl rfl rfl rfl ?_
      refine .load (.no rfl) rfl t24 rfl rfl (.ptr _ _ _ _ _ rfl) rfl rfl rfl rfl ?_
      refine .len (.no rfl) rfl (z := (d.vars.length : Int)) t24 rfl rfl rfl (.d _ _) (map_len _ _) rfl ?_
      refine .bin (.no rfl) rfl rfl rfl rfl rfl rfl ?_
      refine .moveB (.no rfl) rfl rfl rfl rfl fun b15 g3_7 => ?_
      cases b15
      · skip
        refine .off rfl rfl rfl rfl rfl rfl rfl ?_
        refine .off rfl rfl rfl rfl rfl rfl rfl ?_
        refine .off rfl rfl rfl rfl rfl rfl rfl ?_
        refine .off rfl rfl rfl rfl rfl rfl rfl ?_
        refine .off rfl rfl rfl rfl rfl rfl rfl ?_
        refine .off rfl rfl rfl rfl rfl rfl rfl ?_
        refine .off rfl rfl rfl rfl rfl rfl rfl ?_
        refine .pick (.no rfl) rfl rfl rfl rfl rfl ?_
        refine .move (.no rfl) rfl rfl rfl rfl ?_
        refine .off rfl rfl rfl rfl rfl rfl rfl ?_
        refine .off rfl rfl rfl rfl rfl rfl rfl ?_
        refine .off rfl rfl rfl rfl rfl rfl rfl ?_
        refine .pick (.no rfl) rfl rfl rfl rfl rfl ?_
        refine .move (.no rfl) rfl rfl rfl rfl ?_
        refine .off rfl rfl rfl rfl rfl rfl rfl ?_
        refine .off rfl rfl rfl rfl rfl rfl rfl ?_
        refine .off rfl rfl rfl rfl rfl rfl rfl ?_
        refine .pick (.no rfl) rfl rfl rfl rfl rfl ?_
        refine .assign (.no rfl) rfl rfl rfl rfl ?_
        exact .fin () (.of (.cons (svB (show (false) = (((((e.ints.length : Int) == (d.vars.length : Int) && (e.arrs.length : Int) == (d.arrays.length : Int)) && e.ints.all (fun x0 => Iv.ok x0)) && e.arrs.all (fun x0 => Iv.ok x0))) by first | (simp only [g3_7, Bool.true_or, Bool.false_or, Bool.true_and, Bool.false_and, Bool.not_true, Bool.not_false]; done) | simp [g3_7])) .nil) .nil)
      · skip
        refine .fieldAddrP (.on rfl rfl rfl rfl rfl) rfl t30 rfl rfl t28 rfl rfl rfl rfl ?_
        refine .load (.on rfl rfl rfl rfl rfl) rfl t28 rfl rfl (.ptr _ _ _ _ _ rfl) rfl rfl rfl rfl ?_
        refine .len (.on rfl rfl rfl rfl rfl) rfl (z := (e.arrs.length : Int)) t28 rfl rfl rfl (.d _ _) (map_len _ _) rfl ?_
        refine .fieldAddrP (.on rfl rfl rfl rfl rfl) rfl t27 rfl rfl t25 rfl rfl rfl rfl ?_
        refine .load (.on rfl rfl rfl rfl rfl) rfl t25 rfl rfl (.ptr _ _ _ _ _ rfl) rfl rfl rfl rfl ?_
        refine .len (.on rfl rfl rfl rfl rfl) rfl (z := (d.arrays.length : Int)) t25 rfl rfl rfl (.d _ _) (map_len _ _) rfl ?_
        refine .bin (.on rfl rfl rfl rfl rfl) rfl rfl rfl rfl rfl rfl ?_
        refine .pick (.no rfl) rfl rfl rfl rfl rfl ?_
        refine .moveB (.no rfl) rfl rfl rfl rfl fun b16 g3_16 => ?_
        cases b16
        · skip
          refine .off rfl rfl rfl rfl rfl rfl rfl ?_
          refine .off rfl rfl rfl rfl rfl rfl rfl ?_
          refine .off rfl rfl rfl rfl rfl rfl rfl ?_
          refine .pick (.no rfl) rfl rfl rfl rfl rfl ?_
          refine .move (.no rfl) rfl rfl rfl rfl ?_
          refine .off rfl rfl rfl rfl rfl rfl rfl ?_
          refine .off rfl rfl rfl rfl rfl rfl rfl ?_
          refine .off rfl rfl rfl rfl rfl rfl rfl ?_
          refine .pick (.no rfl) rfl rfl rfl rfl rfl ?_
          refine .assign (.no rfl) rfl rfl rfl rfl ?_
          exact .fin () (.of (.cons (svB (show (false) = (((((e.ints.length : Int) == (d.vars.length : Int) && (e.arrs.length : Int) == (d.arrays.length : Int)) && e.ints.all (fun x0 => Iv.ok x0)) && e.arrs.all (fun x0 => Iv.ok x0))) by first | (simp only [g3_7, g3_16, Bool.true_or, Bool.false_or, Bool.true_and, Bool.false_and, Bool.not_true, Bool.not_false]; done) | simp [g3_7, g3_16])) .nil) .nil)
        · skip
          refine .fieldAddrP (.on rfl rfl rfl rfl rfl) rfl t30 rfl rfl t28 rfl rfl rfl rfl ?_
          refine .load (.on rfl rfl rfl rfl rfl) rfl t28 rfl rfl (.ptr _ _ _ _ _ rfl) rfl rfl rfl rfl ?_
          refine .call (.on rfl rfl rfl rfl rfl) rfl [] [] (c_areAllI e.ints 105 [] [] (fun x0 => Iv.ok x0) (fun x0 => c_IvOk x0)) rfl rfl rfl rfl rfl (.cons (Reads.d _).gives (.cons (Reads.d _).gives .nil)) rfl rfl (fun h => absurd rfl h) (.own [37, 0] .nil) (.nil) rfl rfl rfl (by simp) rfl rfl rfl ?_
          refine .pick (.no rfl) rfl rfl rfl rfl rfl ?_
          refine .moveB (.no rfl) rfl rfl rfl rfl fun b17 g3_21 => ?_
          cases b17
          · skip
            refine .off rfl rfl rfl rfl rfl rfl rfl ?_
            refine .off rfl rfl rfl rfl rfl rfl rfl ?_
            refine .off rfl rfl rfl rfl rfl rfl rfl ?_
            refine .pick (.no rfl) rfl rfl rfl rfl rfl ?_
            refine .assign (.no rfl) rfl rfl rfl rfl ?_
            exact .fin () (.of (.cons (svB (show (false) = (((((e.ints.length : Int) == (d.vars.length : Int) && (e.arrs.length : Int) == (d.arrays.length : Int)) && e.ints.all (fun x0 => Iv.ok x0)) && e.arrs.all (fun x0 => Iv.ok x0))) by first | (simp only [g3_7, g3_16, g3_21, Bool.true_or, Bool.false_or, Bool.true_and, Bool.false_and, Bool.not_true, Bool.not_false]; done) | simp [g3_7, g3_16, g3_21])) .nil) .nil)
          · skip
            refine .fieldAddrP (.on rfl rfl rfl rfl rfl) rfl t30 rfl rfl t28 rfl rfl rfl rfl ?_
            refine .load (.on rfl rfl rfl rfl rfl) rfl t28 rfl rfl (.ptr _ _ _ _ _ rfl) rfl rfl rfl rfl ?_
            refine .call (.on rfl rfl rfl rfl rfl) rfl [] [] (c_areAllI e.arrs 105 [] [] (fun x0 => Iv.ok x0) (fun x0 => c_IvOk x0)) rfl rfl rfl rfl rfl (.cons (Reads.d _).gives (.cons (Reads.d _).gives .nil)) rfl rfl (fun h => absurd rfl h) (.own [42, 0] .nil) (.nil) rfl rfl rfl (by simp) rfl rfl rfl ?_
            refine .pick (.no rfl) rfl rfl rfl rfl rfl ?_
            refine .assign (.no rfl) rfl rfl rfl rfl ?_
            exact .fin () (.of (.cons (svB (show (e.arrs.all (fun x0 => Iv.ok x0)) = (((((e.ints.length : Int) == (d.vars.length : Int) && (e.arrs.length : Int) == (d.arrays.length : Int)) && e.ints.all (fun x0 => Iv.ok x0)) && e.arrs.all (fun x0 => Iv.ok x0))) by first | (simp only [g3_7, g3_16, g3_21, Bool.true_or, Bool.false_or, Bool.true_and, Bool.false_and, Bool.not_true, Bool.not_false]; done) | simp [g3_7, g3_16, g3_21])) .nil) .nil)
    intro _
    refine .ret ?_
    have e18 : (((((e.ints.length : Int) == (d.vars.length : Int) && (e.arrs.length : Int) == (d.arrays.length : Int)) && e.ints.all (fun x0 => Iv.ok x0)) && e.arrs.all (fun x0 => Iv.ok x0))) = (Env.okIn d e) := by simp [Env.okIn, c0, Bool.and_assoc]
    have hc19 := eq1 (fun z1 => SV.one (.d (.v (.bool (z1))))) e18
    show _ ∧ _
    exact ⟨.inr rfl, .done ⟨_, [], [], _, .one (c := .d (.v (.bool (Env.okIn d e)))) (hc19) .nil, .cons (Reads.d _).gives .nil, nodupB_ok rfl, by simp, (by simp)⟩⟩
end Go.Proofs

namespace Go.Proofs
open Go Go.Proofs Go.Ev

theorem c_CloneI (l : List Iv) (hb : l.length ≤ 2097152) : Trip Tryd.prog 137 [(false, 1)] ([.sl false 39 2 (List.map Iv.c (l))]) [(false, 1)] [.sl true 39 2 (List.map Iv.c (l))] [] := by
  refine Trip.of Tryd.func137 (by decide) (c := _) rfl rfl (shB_ok rfl) (Nat.le_of_ble_eq_true rfl) rfl (AftOk.nil _) ?_
  refine .sat (t := 0) rfl (fun hs1 => ?_)
  have hs1l : l.length ≤ 9223372036854775807 := hs1.maplen
  refine .seq ?_
  refine .reg (X := Unit) (fun ζ => .of [(0, .one (.d (.sl false 39 2 (List.map Iv.c (l)))))] []) [⟨[], some 2, [], []⟩] (fun k2 => ?_) ?_
  · skip
    refine .assign (.no rfl) rfl rfl rfl rfl ?_
    exact .fin () (.of (.cons rfl .nil) .nil)
  intro _
  refine .seq ?_
  refine .seq ?_
  refine .nilEq t28 rfl rfl rfl rfl rfl rfl rfl rfl rfl rfl rfl (fun b3 hb3 => ?_)
  refine .cond (t := b3) rfl (fun c0 => ?_) (fun c0 => ?_)
  · have c0 := c0
    refine .seq ?_
    refine .reg (X := Unit) (fun ζ => .of [(2, .one (.d (.v (.slice none 0 0))))] []) [⟨[], some 2, [], []⟩] (fun k4 => ?_) ?_
    · skip
      refine .assign (.no rfl) rfl rfl rfl rfl ?_
      exact .fin () (.of (.cons rfl .nil) .nil)
    intro _
    refine .ret ?_
    show _ ∧ _
    exact ⟨.inr rfl, .done ⟨_, [], [], _, .one rfl .nil, .cons (Gives.nil' (by first | rfl | simp_all)) .nil, nodupB_ok rfl, by simp, (by simp)⟩⟩
  · have c0 := c0
    refine .skip ?_
    refine .seq ?_
    refine .reg (X := Nat) (fun ζ => .of [(2, .one (.ref [5] (ζ)))] [([5], (ζ, ζ, .row 39 2 (List.map Iv.c (l))))]) [⟨[], some 5, [], [[5]]⟩, ⟨[0], some 6, [], []⟩, ⟨[5, 6], some 7, [[5]], [[5]]⟩, ⟨[7], some 2, [], []⟩] (fun k5 => ?_) ?_
    · skip
      refine .buildSlice (.no rfl) rfl (els := []) t28 rfl z39 rfl rfl rfl rfl rfl rfl rfl rfl (by simp [i39]) .nil rfl rfl rfl ?_
      refine .move (.no rfl) rfl rfl rfl rfl ?_
      refine .append (.no rfl) rfl (l3 := List.map Iv.c (l)) t28 rfl z39 rfl rfl rfl rfl rfl rfl rfl rfl (.ref _ _ _ _ rfl) (.ro _ _) rfl (by simp [i39]; omega) (List.nil_append _) rfl rfl ?_
      refine .assign (.no rfl) rfl rfl rfl rfl ?_
      exact .fin (k5 + 1 + 1) (.of (.cons rfl .nil) (.cons rfl .nil))
    intro g6
    refine .ret ?_
    show _ ∧ _
    exact ⟨.inr rfl, .done ⟨_, [], [([5], (g6, g6, .row 39 2 (List.map Iv.c (l))))], _, .one rfl .nil, .cons (.ref (.head _)) .nil, nodupB_ok rfl, by simp, (AllH.get (.cons rfl .nil))⟩⟩
theorem c_own (e : Env) (hb : e.ints.length ≤ 1048576 ∧ e.arrs.length ≤ 1048576) : Trip Tryd.prog 93 [(true, 3)] (Env.c30 e) [(true, 3)] [.v (.bool (e.live)), .sl true 39 2 (List.map Iv.c (e.ints)), .sl true 39 2 (List.map Iv.c (e.arrs))] [] := by
  refine Trip.of Tryd.func93 (by decide) (c := _) rfl rfl (shB_ok rfl) (Nat.le_of_ble_eq_true rfl) rfl (AftOk.nil _) ?_
  refine .satA (t := 0) (i := 1) rfl rfl (fun hs1 => ?_)
  have hs1l : e.ints.length ≤ 9223372036854775807 := hs1.maplen
  refine .satA (t := 0) (i := 2) rfl rfl (fun hs2 => ?_)
  have hs2l : e.arrs.length ≤ 9223372036854775807 := hs2.maplen
  refine .seq ?_
  refine .reg (X := Nat × Nat) (fun ζ => .of [(1, .one (.ptr [1] (ζ.1) 0)), (2, .one (.ptr [2] (ζ.2) 0))] [([1], (ζ.1, ζ.1, .box [.d (.v (.bool (e.live))), .d (.sl false 39 2 (List.map Iv.c (e.ints))), .d (.sl false 39 2 (List.map Iv.c (e.arrs)))])), ([2], (ζ.2, ζ.2, .box [.d (.v (.bool (false))), .d (.v (.slice none 0 0)), .d (.v (.slice none 0 0))]))]) [⟨[0], some 1, [], [[1]]⟩, ⟨[], some 2, [], [[2]]⟩] (fun k3 => ?_) ?_
  · skip
    refine .box (.no rfl) rfl rfl rfl rfl rfl ?_
    refine .alloc (.no rfl) rfl z30 rfl rfl rfl ?_
    exact .fin (k3, k3 + 1) (.of (.cons rfl (.cons rfl .nil)) (.cons rfl (.cons rfl .nil)))
  rintro ⟨g4, g5⟩
  refine .seq ?_
  refine .regD (X := Nat × Nat × Nat) (by kernel_rfl) (fun ζ => .of [(1, .one (.ptr [1] (g4) 0)), (2, .one (.ptr [2] (g5) 0))] [([1], (g4, ζ.1, .box [.d (.v (.bool (e.live))), .ref [5, 0] (ζ.2.1), .ref [8, 0] (ζ.2.2)])), ([2], (g5, g5, .box [.d (.v (.bool (false))), .d (.v (.slice none 0 0)), .d (.v (.slice none 0 0))])), ([5, 0], (ζ.2.1, ζ.2.1, .row 39 2 (List.map Iv.c (e.ints)))), ([8, 0], (ζ.2.2, ζ.2.2, .row 39 2 (List.map Iv.c (e.arrs))))]) [⟨[1], some 3, [], []⟩, ⟨[3], some 4, [[1]], []⟩, ⟨[4], some 5, [], [[5, 0]]⟩, ⟨[1], some 6, [], []⟩, ⟨[6], some 7, [[1]], []⟩, ⟨[7], some 8, [], [[8, 0]]⟩, ⟨[1], some 9, [], []⟩, ⟨[9, 5], none, [[1]], [[1]]⟩, ⟨[1], some 10, [], []⟩, ⟨[10, 8], none, [[1]], [[1]]⟩] (by kernel_rfl) (fun k6 => ?_) ?_
  · skip
    refine .fieldAddrP (.no rfl) rfl t30 rfl rfl t28 rfl rfl rfl rfl ?_
    refine .load (.no rfl) rfl t28 rfl rfl (.ptr _ _ _ _ _ rfl) rfl rfl rfl rfl ?_
    refine .call (.no rfl) rfl [] [] (c_CloneI e.ints (by omega)) rfl rfl rfl rfl rfl (.cons (Reads.d _).gives .nil) rfl rfl (fun h => absurd rfl h) (.own [5, 0] .nil) (.nil) rfl rfl rfl (by simp) rfl rfl rfl ?_
    refine .fieldAddrP (.no rfl) rfl t30 rfl rfl t28 rfl rfl rfl rfl ?_
    refine .load (.no rfl) rfl t28 rfl rfl (.ptr _ _ _ _ _ rfl) rfl rfl rfl rfl ?_
    refine .call (.no rfl) rfl [] [] (c_CloneI e.arrs (by omega)) rfl rfl rfl rfl rfl (.cons (Reads.d _).gives .nil) rfl rfl (fun h => absurd rfl h) (.own [8, 0] .nil) (.nil) rfl rfl rfl (by simp) rfl rfl rfl ?_
    refine .fieldAddrP (.no rfl) rfl t30 rfl rfl t28 rfl rfl rfl rfl ?_
    refine .store (.no rfl) rfl t28 rfl rfl rfl rfl rfl rfl rfl rfl rfl ?_
    refine .fieldAddrP (.no rfl) rfl t30 rfl rfl t28 rfl rfl rfl rfl ?_
    refine .store (.no rfl) rfl t28 rfl rfl rfl rfl rfl rfl rfl rfl rfl ?_
    exact .fin (k6 + 1 + 1 + 1 + 1 + 1 + 1 + 1 + 1 + 1, k6 + 1 + 1, k6 + 1 + 1 + 1 + 1 + 1) (.of (.cons rfl (.cons rfl .nil)) (.cons rfl (.cons rfl (.cons rfl (.cons rfl .nil)))))
  rintro ⟨g7, g8, g9⟩
  refine .seq ?_
  refine .reg (X := Nat) (fun ζ => .of [(2, .one (.ptr [2] (g5) 0))] [([2], (g5, ζ, .box [.d (.v (.bool (e.live))), .ref [5, 0] (g8), .ref [8, 0] (g9)])), ([5, 0], (g8, g8, .row 39 2 (List.map Iv.c (e.ints)))), ([8, 0], (g9, g9, .row 39 2 (List.map Iv.c (e.arrs))))]) [⟨[1], some 11, [[1]], []⟩, ⟨[2, 11], none, [[2]], [[2]]⟩] (fun k10 => ?_) ?_
  · skip
    refine .load (.no rfl) rfl t30 rfl rfl (.ptr _ _ _ _ _ rfl) rfl rfl rfl rfl ?_
    refine .store (.no rfl) rfl t30 rfl rfl rfl rfl rfl rfl rfl rfl rfl ?_
    exact .fin (k10 + 1) (.of (.cons rfl .nil) (.cons rfl (.cons rfl (.cons rfl .nil))))
  intro g11
  refine .ret ?_
  show _ ∧ _
  exact ⟨.inr rfl, .done ⟨_, [], [([5, 0], (g8, g8, .row 39 2 (List.map Iv.c (e.ints)))), ([8, 0], (g9, g9, .row 39 2 (List.map Iv.c (e.arrs))))], _, .cell (cells := [.d (.v (.bool (e.live))), .ref [5, 0] (g8), .ref [8, 0] (g9)]) rfl rfl t30 rfl rfl .nil, .cons (Reads.d _).gives (.cons (.ref (.head _)) (.cons (.ref (.tail _ (.head _))) .nil)), nodupB_ok rfl, by simp, (AllH.get (.cons rfl (.cons rfl .nil)))⟩⟩
theorem c_areIvs (a : Iv) (b : Iv) : Trip Tryd.prog 61 [(true, 2), (true, 2)] (Iv.c a ++ Iv.c b) [(false, 1)] [.v (.bool (Iv.ok a && Iv.ok b))] [] := by
  refine Trip.of Tryd.func61 (by decide) (c := _) rfl rfl (shB_ok rfl) (Nat.le_of_ble_eq_true rfl) rfl (AftOk.nil _) ?_
  refine .seq ?_
  refine .reg (X := Nat × Nat) (fun ζ => .of [(2, .one (.ptr [2] (ζ.1) 0)), (3, .one (.ptr [3] (ζ.2) 0))] [([2], (ζ.1, ζ.1, .box [.d (.v (.int .i64 (a.lo))), .d (.v (.int .i64 (a.hi)))])), ([3], (ζ.2, ζ.2, .box [.d (.v (.int .i64 (b.lo))), .d (.v (.int .i64 (b.hi)))]))]) [⟨[0], some 2, [], [[2]]⟩, ⟨[1], some 3, [], [[3]]⟩, ⟨[], some 4, [], []⟩] (fun k1 => ?_) ?_
  · skip
    refine .box (.no rfl) rfl rfl rfl rfl rfl ?_
    refine .box (.no rfl) rfl rfl rfl rfl rfl ?_
    refine .assign (.no rfl) rfl rfl rfl rfl ?_
    exact .fin (k1, k1 + 1) (.of (.cons rfl (.cons rfl .nil)) (.cons rfl (.cons rfl .nil)))
  rintro ⟨g2, g3⟩
  refine .seq ?_
  refine .reg (X := Unit) (fun ζ => .of [(4, .one (.d (.v (.bool ((Iv.ok a && Iv.ok b))))))] []) [⟨[2], some 5, [[2]], []⟩, ⟨[5], some 6, [], []⟩, ⟨[6], some 7, [], []⟩, ⟨[7, 3], some 8, [[3]], []⟩, ⟨[7, 8], some 9, [], []⟩, ⟨[7, 9], some 10, [], []⟩, ⟨[10], some 4, [], []⟩] (fun k4 => ?_) ?_
  · skip
    refine .load (.no rfl) rfl t39 rfl rfl (.ptr _ _ _ _ _ rfl) rfl rfl rfl rfl ?_
    refine .call (.no rfl) rfl [] [] (c_IvOk a) rfl rfl rfl rfl rfl (.cons (Reads.d _).gives (.cons (Reads.d _).gives .nil)) rfl rfl (fun h => absurd rfl h) (.own [6, 0] .nil) (.nil) rfl rfl rfl (by simp) rfl rfl rfl ?_
    refine .moveB (.no rfl) rfl rfl rfl rfl fun b5 g1_2 => ?_
    cases b5
    · skip
      refine .off rfl rfl rfl rfl rfl rfl rfl ?_
      refine .off rfl rfl rfl rfl rfl rfl rfl ?_
      refine .pick (.no rfl) rfl rfl rfl rfl rfl ?_
      refine .assign (.no rfl) rfl rfl rfl rfl ?_
      exact .fin () (.of (.cons (svB (show (false) = ((Iv.ok a && Iv.ok b)) by first | (simp only [g1_2, Bool.true_or, Bool.false_or, Bool.true_and, Bool.false_and, Bool.not_true, Bool.not_false]; done) | simp [g1_2])) .nil) .nil)
    · skip
      refine .load (.on rfl rfl rfl rfl rfl) rfl t39 rfl rfl (.ptr _ _ _ _ _ rfl) rfl rfl rfl rfl ?_
      refine .call (.on rfl rfl rfl rfl rfl) rfl [] [] (c_IvOk b) rfl rfl rfl rfl rfl (.cons (Reads.d _).gives (.cons (Reads.d _).gives .nil)) rfl rfl (fun h => absurd rfl h) (.own [9, 0] .nil) (.nil) rfl rfl rfl (by simp) rfl rfl rfl ?_
      refine .pick (.no rfl) rfl rfl rfl rfl rfl ?_
      refine .assign (.no rfl) rfl rfl rfl rfl ?_
      exact .fin () (.of (.cons (svB (show (Iv.ok b) = ((Iv.ok a && Iv.ok b)) by first | (simp only [g1_2, Bool.true_or, Bool.false_or, Bool.true_and, Bool.false_and, Bool.not_true, Bool.not_false]; done) | simp [g1_2])) .nil) .nil)
  intro _
  refine .ret ?_
  have e6 : ((Iv.ok a && Iv.ok b)) = (Iv.ok a && Iv.ok b) := by rfl
  have hc7 := eq1 (fun z1 => SV.one (.d (.v (.bool (z1))))) e6
  show _ ∧ _
  exact ⟨.inr rfl, .done ⟨_, [], [], _, .one (c := .d (.v (.bool (Iv.ok a && Iv.ok b)))) (hc7) .nil, .cons (Reads.d _).gives .nil, nodupB_ok rfl, by simp, (by simp)⟩⟩
theorem c_IvJoin (a : Iv) (b : Iv) : Trip Tryd.prog 107 [(true, 2), (true, 2)] (Iv.c a ++ Iv.c b) [(true, 2)] [.v (.int .i64 ((Iv.joinOk a b).lo)), .v (.int .i64 ((Iv.joinOk a b).hi))] [] := by
  refine Trip.of Tryd.func107 (by decide) (c := _) rfl rfl (shB_ok rfl) (Nat.le_of_ble_eq_true rfl) rfl (AftOk.nil _) ?_
  refine .seq ?_
  refine .reg (X := Nat × Nat × Nat) (fun ζ => .of [(2, .one (.ptr [2] (ζ.1) 0)), (3, .one (.ptr [3] (ζ.2.1) 0)), (4, .one (.ptr [4] (ζ.2.2) 0))] [([2], (ζ.1, ζ.1, .box [.d (.v (.int .i64 (a.lo))), .d (.v (.int .i64 (a.hi)))])), ([3], (ζ.2.1, ζ.2.1, .box [.d (.v (.int .i64 (b.lo))), .d (.v (.int .i64 (b.hi)))])), ([4], (ζ.2.2, ζ.2.2, .box [.d (.v (.int .i64 (0))), .d (.v (.int .i64 (0)))]))]) [⟨[0], some 2, [], [[2]]⟩, ⟨[1], some 3, [], [[3]]⟩, ⟨[], some 4, [], [[4]]⟩] (fun k1 => ?_) ?_
  · skip
    refine .box (.no rfl) rfl rfl rfl rfl rfl ?_
    refine .box (.no rfl) rfl rfl rfl rfl rfl ?_
    refine .alloc (.no rfl) rfl z39 rfl rfl rfl ?_
    exact .fin (k1, k1 + 1, k1 + 1 + 1) (.of (.cons rfl (.cons rfl (.cons rfl .nil))) (.cons rfl (.cons rfl (.cons rfl .nil))))
  rintro ⟨g2, g3, g4⟩
  refine .seq ?_
  refine .seq ?_
  refine .reg (X := Unit) (fun ζ => .of [(2, .one (.ptr [2] (g2) 0)), (3, .one (.ptr [3] (g3) 0)), (4, .one (.ptr [4] (g4) 0)), (8, .one (.d (.v (.bool (!(Iv.ok a && Iv.ok b))))))] [([2], (g2, g2, .box [.d (.v (.int .i64 (a.lo))), .d (.v (.int .i64 (a.hi)))])), ([3], (g3, g3, .box [.d (.v (.int .i64 (b.lo))), .d (.v (.int .i64 (b.hi)))])), ([4], (g4, g4, .box [.d (.v (.int .i64 (0))), .d (.v (.int .i64 (0)))]))]) [⟨[2], some 5, [[2]], []⟩, ⟨[3], some 6, [[3]], []⟩, ⟨[5, 6], some 7, [], []⟩, ⟨[7], some 8, [], []⟩] (fun k5 => ?_) ?_
  · skip
    refine .load (.no rfl) rfl t39 rfl rfl (.ptr _ _ _ _ _ rfl) rfl rfl rfl rfl ?_
    refine .load (.no rfl) rfl t39 rfl rfl (.ptr _ _ _ _ _ rfl) rfl rfl rfl rfl ?_
    refine .call (.no rfl) rfl [] [] (c_areIvs a b) rfl rfl rfl rfl rfl (.cons (Reads.d _).gives (.cons (Reads.d _).gives (.cons (Reads.d _).gives (.cons (Reads.d _).gives .nil)))) rfl rfl (fun h => absurd rfl h) (.own [7, 0] .nil) (.nil) rfl rfl rfl (by simp) rfl rfl rfl ?_
    refine .un (.no rfl) rfl rfl rfl rfl rfl ?_
    exact .fin () (.of (.cons rfl (.cons rfl (.cons rfl (.cons rfl .nil)))) (.cons rfl (.cons rfl (.cons rfl .nil))))
  intro _
  refine .cond (t := !(Iv.ok a && Iv.ok b)) rfl (fun c0 => ?_) (fun c0 => ?_)
  · have c0 := c0
    try simp only [Bool.or_eq_true, Bool.or_eq_false_iff, Bool.and_eq_true, Bool.and_eq_false_iff, decide_eq_true_eq, decide_eq_false_iff_not, Bool.not_eq_true', Bool.not_eq_false', bne_iff_ne, beq_iff_eq, bne_eq_false_iff_eq, beq_eq_false_iff_ne, ne_eq, Bool.not_eq_eq_eq_not, Bool.not_true, Bool.not_false] at c0
    refine .seq ?_
    refine .reg (X := Nat) (fun ζ => .of [(4, .one (.ptr [4] (g4) 0))] [([4], (g4, ζ, .box [.d (.v (.int .i64 (0))), .d (.v (.int .i64 (0)))]))]) [⟨[], some 9, [], []⟩, ⟨[4, 9], none, [[4]], [[4]]⟩] (fun k6 => ?_) ?_
    · skip
      refine .build (.no rfl) rfl z39 rfl p39 rfl rfl rfl rfl ?_
      refine .store (.no rfl) rfl t39 rfl rfl rfl rfl rfl rfl rfl rfl rfl ?_
      exact .fin (k6 + 1) (.of (.cons rfl .nil) (.cons rfl .nil))
    intro g7
    refine .ret ?_
    have e8 : (0) = ((Iv.joinOk a b).lo) := by (rw [Iv.joinOk_no c0])
    have e9 : (0) = ((Iv.joinOk a b).hi) := by (rw [Iv.joinOk_no c0])
    have hc10 := eq2 (fun z1 z2 => some (g4, g7, O.box [.d (.v (.int .i64 (z1))), .d (.v (.int .i64 (z2)))])) e8 e9
    show _ ∧ _
    exact ⟨.inr rfl, .done ⟨_, [], [], _, .cell (cells := [.d (.v (.int .i64 ((Iv.joinOk a b).lo))), .d (.v (.int .i64 ((Iv.joinOk a b).hi)))]) rfl hc10 t39 rfl rfl .nil, .cons (Reads.d _).gives (.cons (Reads.d _).gives .nil), nodupB_ok rfl, by simp, (by simp)⟩⟩
  · have c0 := c0
    try simp only [Bool.or_eq_true, Bool.or_eq_false_iff, Bool.and_eq_true, Bool.and_eq_false_iff, decide_eq_true_eq, decide_eq_false_iff_not, Bool.not_eq_true', Bool.not_eq_false', bne_iff_ne, beq_iff_eq, bne_eq_false_iff_eq, beq_eq_false_iff_ne, ne_eq, Bool.not_eq_eq_eq_not, Bool.not_true, Bool.not_false] at c0
    refine .skip ?_
    refine .seq ?_
    refine .reg (X := Nat) (fun ζ => .of [(4, .one (.ptr [4] (g4) 0))] [([4], (g4, ζ, .box [.d (.v (.int .i64 (min a.lo b.lo))), .d (.v (.int .i64 (max a.hi b.hi)))]))]) [⟨[2], some 10, [], []⟩, ⟨[10], some 11, [[2]], []⟩, ⟨[3], some 12, [], []⟩, ⟨[12], some 13, [[3]], []⟩, ⟨[11, 13], some 14, [], []⟩, ⟨[2], some 15, [], []⟩, ⟨[15], some 16, [[2]], []⟩, ⟨[3], some 17, [], []⟩, ⟨[17], some 18, [[3]], []⟩, ⟨[16, 18], some 19, [], []⟩, ⟨[14, 19], some 20, [], []⟩, ⟨[4, 20], none, [[4]], [[4]]⟩] (fun k11 => ?_) ?_
    · skip
      refine .fieldAddrP (.no rfl) rfl t39 rfl rfl t2 rfl rfl rfl rfl ?_
      refine .load (.no rfl) rfl t2 rfl rfl (.ptr _ _ _ _ _ rfl) rfl rfl rfl rfl ?_
      refine .fieldAddrP (.no rfl) rfl t39 rfl rfl t2 rfl rfl rfl rfl ?_
      refine .load (.no rfl) rfl t2 rfl rfl (.ptr _ _ _ _ _ rfl) rfl rfl rfl rfl ?_
      refine .min (.no rfl) rfl rfl rfl rfl (min_of _ _) rfl ?_
      refine .fieldAddrP (.no rfl) rfl t39 rfl rfl t2 rfl rfl rfl rfl ?_
      refine .load (.no rfl) rfl t2 rfl rfl (.ptr _ _ _ _ _ rfl) rfl rfl rfl rfl ?_
      refine .fieldAddrP (.no rfl) rfl t39 rfl rfl t2 rfl rfl rfl rfl ?_
      refine .load (.no rfl) rfl t2 rfl rfl (.ptr _ _ _ _ _ rfl) rfl rfl rfl rfl ?_
      refine .max (.no rfl) rfl rfl rfl rfl (max_of _ _) rfl ?_
      refine .build (.no rfl) rfl z39 rfl p39 rfl rfl rfl rfl ?_
      refine .store (.no rfl) rfl t39 rfl rfl rfl rfl rfl rfl rfl rfl rfl ?_
      exact .fin (k11 + 1 + 1 + 1 + 1 + 1 + 1 + 1 + 1 + 1 + 1 + 1) (.of (.cons rfl .nil) (.cons rfl .nil))
    intro g12
    refine .ret ?_
    have e13 : (min a.lo b.lo) = ((Iv.joinOk a b).lo) := by (rw [Iv.joinOk_yes c0]; rfl)
    have e14 : (max a.hi b.hi) = ((Iv.joinOk a b).hi) := by (rw [Iv.joinOk_yes c0]; rfl)
    have hc15 := eq2 (fun z1 z2 => some (g4, g12, O.box [.d (.v (.int .i64 (z1))), .d (.v (.int .i64 (z2)))])) e13 e14
    show _ ∧ _
    exact ⟨.inr rfl, .done ⟨_, [], [], _, .cell (cells := [.d (.v (.int .i64 ((Iv.joinOk a b).lo))), .d (.v (.int .i64 ((Iv.joinOk a b).hi)))]) rfl hc15 t39 rfl rfl .nil, .cons (Reads.d _).gives (.cons (Reads.d _).gives .nil), nodupB_ok rfl, by simp, (by simp)⟩⟩
end Go.Proofs

namespace Go.Proofs
open Go Go.Proofs Go.Ev

theorem c_EnvOk (d : Decl) (e : Env) (hs : ∀ x ∈ Decl.names d, x.size ≤ 9223372036854775807) (hb : d.vars.length ≤ 1048576 ∧ d.flags.length ≤ 1048576 ∧ d.arrays.length ≤ 1048576) : Trip Tryd.prog 58 [(true, 3), (true, 3)] (Decl.c27 d ++ Env.c30 e) [(false, 1)] [.v (.bool (Decl.ok d && Env.okIn d e))] [] := by
  refine Trip.of Tryd.func58 (by decide) (c := _) rfl rfl (shB_ok rfl) (Nat.le_of_ble_eq_true rfl) rfl (AftOk.nil _) ?_
  refine .satA (t := 0) (i := 0) rfl rfl (fun hs1 => ?_)
  have hs1l : d.vars.length ≤ 9223372036854775807 := hs1.maplen
  refine .satA (t := 0) (i := 1) rfl rfl (fun hs2 => ?_)
  have hs2l : d.flags.length ≤ 9223372036854775807 := hs2.maplen
  refine .satA (t := 0) (i := 2) rfl rfl (fun hs3 => ?_)
  have hs3l : d.arrays.length ≤ 9223372036854775807 := hs3.maplen
  refine .satA (t := 1) (i := 1) rfl rfl (fun hs4 => ?_)
  have hs4l : e.ints.length ≤ 9223372036854775807 := hs4.maplen
  refine .satA (t := 1) (i := 2) rfl rfl (fun hs5 => ?_)
  have hs5l : e.arrs.length ≤ 9223372036854775807 := hs5.maplen
  refine .seq ?_
  refine .reg (X := Nat × Nat) (fun ζ => .of [(2, .one (.ptr [2] (ζ.1) 0)), (3, .one (.ptr [3] (ζ.2) 0))] [([2], (ζ.1, ζ.1, .box [.d (.sl false 9 1 (List.map strc (d.vars))), .d (.sl false 9 1 (List.map strc (d.flags))), .d (.sl false 52 2 (List.map Arr.c (d.arrays)))])), ([3], (ζ.2, ζ.2, .box [.d (.v (.bool (e.live))), .d (.sl false 39 2 (List.map Iv.c (e.ints))), .d (.sl false 39 2 (List.map Iv.c (e.arrs)))]))]) [⟨[0], some 2, [], [[2]]⟩, ⟨[1], some 3, [], [[3]]⟩, ⟨[], some 4, [], []⟩] (fun k6 => ?_) ?_
  · skip
    refine .box (.no rfl) rfl rfl rfl rfl rfl ?_
    refine .box (.no rfl) rfl rfl rfl rfl rfl ?_
    refine .assign (.no rfl) rfl rfl rfl rfl ?_
    exact .fin (k6, k6 + 1) (.of (.cons rfl (.cons rfl .nil)) (.cons rfl (.cons rfl .nil)))
  rintro ⟨g7, g8⟩
  refine .seq ?_
  refine .reg (X := Unit) (fun ζ => .of [(4, .one (.d (.v (.bool ((Decl.ok d && Env.okIn d e))))))] []) [⟨[2], some 5, [[2]], []⟩, ⟨[5], some 6, [], []⟩, ⟨[6], some 7, [], []⟩, ⟨[7, 2], some 8, [[2]], []⟩, ⟨[7, 3], some 9, [[3]], []⟩, ⟨[7, 8, 9], some 10, [], []⟩, ⟨[7, 10], some 11, [], []⟩, ⟨[11], some 4, [], []⟩] (fun k9 => ?_) ?_
  · skip
    refine .load (.no rfl) rfl t27 rfl rfl (.ptr _ _ _ _ _ rfl) rfl rfl rfl rfl ?_
    refine .call (.no rfl) rfl [] [] (c_isRight d (by assumption) (by assumption)) rfl rfl rfl rfl rfl (.cons (Reads.d _).gives (.cons (Reads.d _).gives (.cons (Reads.d _).gives .nil))) rfl rfl (fun h => absurd rfl h) (.own [6, 0] .nil) (.nil) rfl rfl rfl (by simp) rfl rfl rfl ?_
    refine .moveB (.no rfl) rfl rfl rfl rfl fun b10 g1_2 => ?_
    cases b10
    · skip
      refine .off rfl rfl rfl rfl rfl rfl rfl ?_
      refine .off rfl rfl rfl rfl rfl rfl rfl ?_
      refine .off rfl rfl rfl rfl rfl rfl rfl ?_
      refine .pick (.no rfl) rfl rfl rfl rfl rfl ?_
      refine .assign (.no rfl) rfl rfl rfl rfl ?_
      exact .fin () (.of (.cons (svB (show (false) = ((Decl.ok d && Env.okIn d e)) by first | (simp only [g1_2, Bool.true_or, Bool.false_or, Bool.true_and, Bool.false_and, Bool.not_true, Bool.not_false]; done) | simp [g1_2])) .nil) .nil)
    · skip
      refine .load (.on rfl rfl rfl rfl rfl) rfl t27 rfl rfl (.ptr _ _ _ _ _ rfl) rfl rfl rfl rfl ?_
      refine .load (.on rfl rfl rfl rfl rfl) rfl t30 rfl rfl (.ptr _ _ _ _ _ rfl) rfl rfl rfl rfl ?_
      refine .call (.on rfl rfl rfl rfl rfl) rfl [] [] (c_isEnv d e) rfl rfl rfl rfl rfl (.cons (Reads.d _).gives (.cons (Reads.d _).gives (.cons (Reads.d _).gives (.cons (Reads.d _).gives (.cons (Reads.d _).gives (.cons (Reads.d _).gives .nil)))))) rfl rfl (fun h => absurd rfl h) (.own [10, 0] .nil) (.nil) rfl rfl rfl (by simp) rfl rfl rfl ?_
      refine .pick (.no rfl) rfl rfl rfl rfl rfl ?_
      refine .assign (.no rfl) rfl rfl rfl rfl ?_
      exact .fin () (.of (.cons (svB (show (Env.okIn d e) = ((Decl.ok d && Env.okIn d e)) by first | (simp only [g1_2, Bool.true_or, Bool.false_or, Bool.true_and, Bool.false_and, Bool.not_true, Bool.not_false]; done) | simp [g1_2])) .nil) .nil)
  intro _
  refine .ret ?_
  have e11 : ((Decl.ok d && Env.okIn d e)) = (Decl.ok d && Env.okIn d e) := by rfl
  have hc12 := eq1 (fun z1 => SV.one (.d (.v (.bool (z1))))) e11
  show _ ∧ _
  exact ⟨.inr rfl, .done ⟨_, [], [], _, .one (c := .d (.v (.bool (Decl.ok d && Env.okIn d e)))) (hc12) .nil, .cons (Reads.d _).gives .nil, nodupB_ok rfl, by simp, (by simp)⟩⟩
end Go.Proofs

namespace Go.Proofs
open Go Go.Proofs Go.Ev

theorem c_sIvMeet (a : Iv) (b : Iv) : Trip Tryd.prog 140 [(true, 2), (true, 2)] (Iv.c a ++ Iv.c b) [(true, 2), (false, 1)] [.v (.int .i64 ((Iv.meetOk a b).lo)), .v (.int .i64 ((Iv.meetOk a b).hi)), .v (.bool (Iv.meets a b))] [] := by
  refine Trip.of Tryd.func140 (by decide) (c := _) rfl rfl (shB_ok rfl) (Nat.le_of_ble_eq_true rfl) rfl (AftOk.nil _) ?_
  refine .seq ?_
  refine .reg (X := Nat × Nat × Nat) (fun ζ => .of [(2, .one (.ptr [2] (ζ.1) 0)), (3, .one (.ptr [3] (ζ.2.1) 0)), (4, .one (.ptr [4] (ζ.2.2) 0))] [([2], (ζ.1, ζ.1, .box [.d (.v (.int .i64 (a.lo))), .d (.v (.int .i64 (a.hi)))])), ([3], (ζ.2.1, ζ.2.1, .box [.d (.v (.int .i64 (b.lo))), .d (.v (.int .i64 (b.hi)))])), ([4], (ζ.2.2, ζ.2.2, .box [.d (.v (.int .i64 (0))), .d (.v (.int .i64 (0)))]))]) [⟨[0], some 2, [], [[2]]⟩, ⟨[1], some 3, [], [[3]]⟩, ⟨[], some 4, [], [[4]]⟩, ⟨[], some 5, [], []⟩] (fun k1 => ?_) ?_
  · skip
    refine .box (.no rfl) rfl rfl rfl rfl rfl ?_
    refine .box (.no rfl) rfl rfl rfl rfl rfl ?_
    refine .alloc (.no rfl) rfl z39 rfl rfl rfl ?_
    refine .assign (.no rfl) rfl rfl rfl rfl ?_
    exact .fin (k1, k1 + 1, k1 + 1 + 1) (.of (.cons rfl (.cons rfl (.cons rfl .nil))) (.cons rfl (.cons rfl (.cons rfl .nil))))
  rintro ⟨g2, g3, g4⟩
  refine .seq ?_
  refine .reg (X := Nat × Nat) (fun ζ => .of [(2, .one (.ptr [2] (g2) 0)), (3, .one (.ptr [3] (g3) 0)), (4, .one (.ptr [4] (g4) 0)), (6, .one (.ptr [6] (ζ.1) 0))] [([2], (g2, g2, .box [.d (.v (.int .i64 (a.lo))), .d (.v (.int .i64 (a.hi)))])), ([3], (g3, g3, .box [.d (.v (.int .i64 (b.lo))), .d (.v (.int .i64 (b.hi)))])), ([4], (g4, g4, .box [.d (.v (.int .i64 (0))), .d (.v (.int .i64 (0)))])), ([6], (ζ.1, ζ.2, .box [.d (.v (.int .i64 (max a.lo b.lo))), .d (.v (.int .i64 (min a.hi b.hi)))]))]) [⟨[2], some 7, [], []⟩, ⟨[7], some 8, [[2]], []⟩, ⟨[3], some 9, [], []⟩, ⟨[9], some 10, [[3]], []⟩, ⟨[8, 10], some 11, [], []⟩, ⟨[2], some 12, [], []⟩, ⟨[12], some 13, [[2]], []⟩, ⟨[3], some 14, [], []⟩, ⟨[14], some 15, [[3]], []⟩, ⟨[13, 15], some 16, [], []⟩, ⟨[11, 16], some 17, [], []⟩, ⟨[], some 6, [], [[6]]⟩, ⟨[6, 17], none, [[6]], [[6]]⟩] (fun k5 => ?_) ?_
  · skip
    refine .fieldAddrP (.no rfl) rfl t39 rfl rfl t2 rfl rfl rfl rfl ?_
    refine .load (.no rfl) rfl t2 rfl rfl (.ptr _ _ _ _ _ rfl) rfl rfl rfl rfl ?_
    refine .fieldAddrP (.no rfl) rfl t39 rfl rfl t2 rfl rfl rfl rfl ?_
    refine .load (.no rfl) rfl t2 rfl rfl (.ptr _ _ _ _ _ rfl) rfl rfl rfl rfl ?_
    refine .max (.no rfl) rfl rfl rfl rfl (max_of _ _) rfl ?_
    refine .fieldAddrP (.no rfl) rfl t39 rfl rfl t2 rfl rfl rfl rfl ?_
    refine .load (.no rfl) rfl t2 rfl rfl (.ptr _ _ _ _ _ rfl) rfl rfl rfl rfl ?_
    refine .fieldAddrP (.no rfl) rfl t39 rfl rfl t2 rfl rfl rfl rfl ?_
    refine .load (.no rfl) rfl t2 rfl rfl (.ptr _ _ _ _ _ rfl) rfl rfl rfl rfl ?_
    refine .min (.no rfl) rfl rfl rfl rfl (min_of _ _) rfl ?_
    refine .build (.no rfl) rfl z39 rfl p39 rfl rfl rfl rfl ?_
    refine .alloc (.no rfl) rfl z39 rfl rfl rfl ?_
    refine .store (.no rfl) rfl t39 rfl rfl rfl rfl rfl rfl rfl rfl rfl ?_
    exact .fin (k5 + 1 + 1 + 1 + 1 + 1 + 1 + 1 + 1 + 1 + 1 + 1, k5 + 1 + 1 + 1 + 1 + 1 + 1 + 1 + 1 + 1 + 1 + 1 + 1) (.of (.cons rfl (.cons rfl (.cons rfl (.cons rfl .nil)))) (.cons rfl (.cons rfl (.cons rfl (.cons rfl .nil)))))
  rintro ⟨g6, g7⟩
  refine .seq ?_
  refine .seq ?_
  refine .reg (X := Unit) (fun ζ => .of [(4, .one (.ptr [4] (g4) 0)), (6, .one (.ptr [6] (g6) 0)), (30, .one (.d (.v (.bool (((!(Iv.ok a) || !(Iv.ok b)) || !(Iv.ok (Iv.mk (max a.lo b.lo) (min a.hi b.hi)))))))))] [([4], (g4, g4, .box [.d (.v (.int .i64 (0))), .d (.v (.int .i64 (0)))])), ([6], (g6, g7, .box [.d (.v (.int .i64 (max a.lo b.lo))), .d (.v (.int .i64 (min a.hi b.hi)))]))]) [⟨[2], some 18, [[2]], []⟩, ⟨[18], some 19, [], []⟩, ⟨[19], some 20, [], []⟩, ⟨[20], some 21, [], []⟩, ⟨[21, 3], some 22, [[3]], []⟩, ⟨[21, 22], some 23, [], []⟩, ⟨[21, 23], some 24, [], []⟩, ⟨[21, 24], some 25, [], []⟩, ⟨[25], some 26, [], []⟩, ⟨[26, 6], some 27, [[6]], []⟩, ⟨[26, 27], some 28, [], []⟩, ⟨[26, 28], some 29, [], []⟩, ⟨[26, 29], some 30, [], []⟩] (fun k8 => ?_) ?_
  · skip
    refine .load (.no rfl) rfl t39 rfl rfl (.ptr _ _ _ _ _ rfl) rfl rfl rfl rfl ?_
    refine .call (.no rfl) rfl [] [] (c_sIvOk a) rfl rfl rfl rfl rfl (.cons (Reads.d _).gives (.cons (Reads.d _).gives .nil)) rfl rfl (fun h => absurd rfl h) (.own [19, 0] .nil) (.nil) rfl rfl rfl (by simp) rfl rfl rfl ?_
    refine .un (.no rfl) rfl rfl rfl rfl rfl ?_
    refine .moveB (.no rfl) rfl rfl rfl rfl fun b9 g2_3 => ?_
    cases b9
    · skip
      refine .load (.on rfl rfl rfl rfl rfl) rfl t39 rfl rfl (.ptr _ _ _ _ _ rfl) rfl rfl rfl rfl ?_
      refine .call (.on rfl rfl rfl rfl rfl) rfl [] [] (c_sIvOk b) rfl rfl rfl rfl rfl (.cons (Reads.d _).gives (.cons (Reads.d _).gives .nil)) rfl rfl (fun h => absurd rfl h) (.own [23, 0] .nil) (.nil) rfl rfl rfl (by simp) rfl rfl rfl ?_
      refine .un (.on rfl rfl rfl rfl rfl) rfl rfl rfl rfl rfl ?_
      refine .pick (.no rfl) rfl rfl rfl rfl rfl ?_
      refine .moveB (.no rfl) rfl rfl rfl rfl fun b10 g2_8 => ?_
      cases b10
      · skip
        refine .load (.on rfl rfl rfl rfl rfl) rfl t39 rfl rfl (.ptr _ _ _ _ _ rfl) rfl rfl rfl rfl ?_
        refine .call (.on rfl rfl rfl rfl rfl) rfl [] [] (c_sIvOk (Iv.mk (max a.lo b.lo) (min a.hi b.hi))) rfl rfl rfl rfl rfl (.cons (Reads.d _).gives (.cons (Reads.d _).gives .nil)) rfl rfl (fun h => absurd rfl h) (.own [28, 0] .nil) (.nil) rfl rfl rfl (by simp) rfl rfl rfl ?_
        refine .un (.on rfl rfl rfl rfl rfl) rfl rfl rfl rfl rfl ?_
        refine .pick (.no rfl) rfl rfl rfl rfl rfl ?_
        exact .fin () (.of (.cons rfl (.cons rfl (.cons (svB (show (!(Iv.ok (Iv.mk (max a.lo b.lo) (min a.hi b.hi)))) = (((!(Iv.ok a) || !(Iv.ok b)) || !(Iv.ok (Iv.mk (max a.lo b.lo) (min a.hi b.hi))))) by first | (simp only [g2_3, g2_8, Bool.true_or, Bool.false_or, Bool.true_and, Bool.false_and, Bool.not_true, Bool.not_false]; done) | simp [g2_3, g2_8])) .nil))) (.cons rfl (.cons rfl .nil)))
      · skip
        refine .off rfl rfl rfl rfl rfl rfl rfl ?_
        refine .off rfl rfl rfl rfl rfl rfl rfl ?_
        refine .off rfl rfl rfl rfl rfl rfl rfl ?_
        refine .pick (.no rfl) rfl rfl rfl rfl rfl ?_
        exact .fin () (.of (.cons rfl (.cons rfl (.cons (svB (show (true) = (((!(Iv.ok a) || !(Iv.ok b)) || !(Iv.ok (Iv.mk (max a.lo b.lo) (min a.hi b.hi))))) by first | (simp only [g2_3, g2_8, Bool.true_or, Bool.false_or, Bool.true_and, Bool.false_and, Bool.not_true, Bool.not_false]; done) | simp [g2_3, g2_8])) .nil))) (.cons rfl (.cons rfl .nil)))
    · skip
      refine .off rfl rfl rfl rfl rfl rfl rfl ?_
      refine .off rfl rfl rfl rfl rfl rfl rfl ?_
      refine .off rfl rfl rfl rfl rfl rfl rfl ?_
      refine .pick (.no rfl) rfl rfl rfl rfl rfl ?_
      refine .move (.no rfl) rfl rfl rfl rfl ?_
      refine .off rfl rfl rfl rfl rfl rfl rfl ?_
      refine .off rfl rfl rfl rfl rfl rfl rfl ?_
      refine .off rfl rfl rfl rfl rfl rfl rfl ?_
      refine .pick (.no rfl) rfl rfl rfl rfl rfl ?_
      exact .fin () (.of (.cons rfl (.cons rfl (.cons (svB (show (true) = (((!(Iv.ok a) || !(Iv.ok b)) || !(Iv.ok (Iv.mk (max a.lo b.lo) (min a.hi b.hi))))) by first | (simp only [g2_3, Bool.true_or, Bool.false_or, Bool.true_and, Bool.false_and, Bool.not_true, Bool.not_false]; done) | simp [g2_3])) .nil))) (.cons rfl (.cons rfl .nil)))
  intro _
  refine .cond (t := ((!(Iv.ok a) || !(Iv.ok b)) || !(Iv.ok (Iv.mk (max a.lo b.lo) (min a.hi b.hi))))) rfl (fun c0 => ?_) (fun c0 => ?_)
  · have c0 := c0
    try simp only [Bool.or_eq_true, Bool.or_eq_false_iff, Bool.and_eq_true, Bool.and_eq_false_iff, decide_eq_true_eq, decide_eq_false_iff_not, Bool.not_eq_true', Bool.not_eq_false', bne_iff_ne, beq_iff_eq, bne_eq_false_iff_eq, beq_eq_false_iff_ne, ne_eq, Bool.not_eq_eq_eq_not, Bool.not_true, Bool.not_false] at c0
    refine .seq ?_
    refine .reg (X := Nat) (fun ζ => .of [(4, .one (.ptr [4] (g4) 0)), (5, .one (.d (.v (.bool (false)))))] [([4], (g4, ζ, .box [.d (.v (.int .i64 (0))), .d (.v (.int .i64 (0)))]))]) [⟨[], some 31, [], []⟩, ⟨[4, 31], none, [[4]], [[4]]⟩, ⟨[], some 5, [], []⟩] (fun k11 => ?_) ?_
    · skip
      refine .build (.no rfl) rfl z39 rfl p39 rfl rfl rfl rfl ?_
      refine .store (.no rfl) rfl t39 rfl rfl rfl rfl rfl rfl rfl rfl rfl ?_
      refine .assign (.no rfl) rfl rfl rfl rfl ?_
      exact .fin (k11 + 1) (.of (.cons rfl (.cons rfl .nil)) (.cons rfl .nil))
    intro g12
    refine .ret ?_
    have e13 : (0) = ((Iv.meetOk a b).lo) := by first | (rw [Iv.meets_no c0]) | (rw [Iv.meets_yes c0]) | (unfold Iv.meetOk; rw [Iv.meets_no c0]; rfl) | (unfold Iv.meetOk; rw [Iv.meets_yes c0]; rfl)
    have e14 : (0) = ((Iv.meetOk a b).hi) := by first | (rw [Iv.meets_no c0]) | (rw [Iv.meets_yes c0]) | (unfold Iv.meetOk; rw [Iv.meets_no c0]; rfl) | (unfold Iv.meetOk; rw [Iv.meets_yes c0]; rfl)
    have hc15 := eq2 (fun z1 z2 => some (g4, g12, O.box [.d (.v (.int .i64 (z1))), .d (.v (.int .i64 (z2)))])) e13 e14
    have e16 : (false) = (Iv.meets a b) := by first | (rw [Iv.meets_no c0]) | (rw [Iv.meets_yes c0]) | (unfold Iv.meetOk; rw [Iv.meets_no c0]; rfl) | (unfold Iv.meetOk; rw [Iv.meets_yes c0]; rfl)
    have hc17 := eq1 (fun z1 => SV.one (.d (.v (.bool (z1))))) e16
    show _ ∧ _
    exact ⟨.inr rfl, .done ⟨_, [], [], _, .cell (cells := [.d (.v (.int .i64 ((Iv.meetOk a b).lo))), .d (.v (.int .i64 ((Iv.meetOk a b).hi)))]) rfl hc15 t39 rfl rfl (.one (c := .d (.v (.bool (Iv.meets a b)))) (hc17) .nil), .cons (Reads.d _).gives (.cons (Reads.d _).gives (.cons (Reads.d _).gives .nil)), nodupB_ok rfl, by simp, (by simp)⟩⟩
  · have c0 := c0
    try simp only [Bool.or_eq_true, Bool.or_eq_false_iff, Bool.and_eq_true, Bool.and_eq_false_iff, decide_eq_true_eq, decide_eq_false_iff_not, Bool.not_eq_true', Bool.not_eq_false', bne_iff_ne, beq_iff_eq, bne_eq_false_iff_eq, beq_eq_false_iff_ne, ne_eq, Bool.not_eq_eq_eq_not, Bool.not_true, Bool.not_false] at c0
    refine .skip ?_
    refine .seq ?_
    refine .reg (X := Nat) (fun ζ => .of [(4, .one (.ptr [4] (g4) 0)), (5, .one (.d (.v (.bool (true)))))] [([4], (g4, ζ, .box [.d (.v (.int .i64 (max a.lo b.lo))), .d (.v (.int .i64 (min a.hi b.hi)))]))]) [⟨[6], some 32, [[6]], []⟩, ⟨[4, 32], none, [[4]], [[4]]⟩, ⟨[], some 5, [], []⟩] (fun k18 => ?_) ?_
    · skip
      refine .load (.no rfl) rfl t39 rfl rfl (.ptr _ _ _ _ _ rfl) rfl rfl rfl rfl ?_
      refine .store (.no rfl) rfl t39 rfl rfl rfl rfl rfl rfl rfl rfl rfl ?_
      refine .assign (.no rfl) rfl rfl rfl rfl ?_
      exact .fin (k18 + 1) (.of (.cons rfl (.cons rfl .nil)) (.cons rfl .nil))
    intro g19
    refine .ret ?_
    have e20 : (max a.lo b.lo) = ((Iv.meetOk a b).lo) := by first | (rw [Iv.meets_no c0]) | (rw [Iv.meets_yes c0]) | (unfold Iv.meetOk; rw [Iv.meets_no c0]; rfl) | (unfold Iv.meetOk; rw [Iv.meets_yes c0]; rfl)
    have e21 : (min a.hi b.hi) = ((Iv.meetOk a b).hi) := by first | (rw [Iv.meets_no c0]) | (rw [Iv.meets_yes c0]) | (unfold Iv.meetOk; rw [Iv.meets_no c0]; rfl) | (unfold Iv.meetOk; rw [Iv.meets_yes c0]; rfl)
    have hc22 := eq2 (fun z1 z2 => some (g4, g19, O.box [.d (.v (.int .i64 (z1))), .d (.v (.int .i64 (z2)))])) e20 e21
    have e23 : (true) = (Iv.meets a b) := by first | (rw [Iv.meets_no c0]) | (rw [Iv.meets_yes c0]) | (unfold Iv.meetOk; rw [Iv.meets_no c0]; rfl) | (unfold Iv.meetOk; rw [Iv.meets_yes c0]; rfl)
    have hc24 := eq1 (fun z1 => SV.one (.d (.v (.bool (z1))))) e23
    show _ ∧ _
    exact ⟨.inr rfl, .done ⟨_, [], [], _, .cell (cells := [.d (.v (.int .i64 ((Iv.meetOk a b).lo))), .d (.v (.int .i64 ((Iv.meetOk a b).hi)))]) rfl hc22 t39 rfl rfl (.one (c := .d (.v (.bool (Iv.meets a b)))) (hc24) .nil), .cons (Reads.d _).gives (.cons (Reads.d _).gives (.cons (Reads.d _).gives .nil)), nodupB_ok rfl, by simp, (by simp)⟩⟩
theorem c_IvMeet (a : Iv) (b : Iv) : Trip Tryd.prog 139 [(true, 2), (true, 2)] (Iv.c a ++ Iv.c b) [(true, 2), (false, 1)] [.v (.int .i64 ((Iv.meetOk a b).lo)), .v (.int .i64 ((Iv.meetOk a b).hi)), .v (.bool (Iv.meets a b))] [] := by
  refine Trip.of Tryd.func139 (by decide) (c := _) rfl rfl (shB_ok rfl) (Nat.le_of_ble_eq_true rfl) rfl (AftOk.nil _) ?_
  refine .seq ?_
  refine .reg (X := Nat × Nat × Nat) (fun ζ => .of [(2, .one (.ptr [2] (ζ.1) 0)), (3, .one (.ptr [3] (ζ.2.1) 0)), (4, .one (.ptr [4] (ζ.2.2) 0))] [([2], (ζ.1, ζ.1, .box [.d (.v (.int .i64 (a.lo))), .d (.v (.int .i64 (a.hi)))])), ([3], (ζ.2.1, ζ.2.1, .box [.d (.v (.int .i64 (b.lo))), .d (.v (.int .i64 (b.hi)))])), ([4], (ζ.2.2, ζ.2.2, .box [.d (.v (.int .i64 (0))), .d (.v (.int .i64 (0)))]))]) [⟨[0], some 2, [], [[2]]⟩, ⟨[1], some 3, [], [[3]]⟩, ⟨[], some 4, [], [[4]]⟩, ⟨[], some 5, [], []⟩] (fun k1 => ?_) ?_
  · skip
    refine .box (.no rfl) rfl rfl rfl rfl rfl ?_
    refine .box (.no rfl) rfl rfl rfl rfl rfl ?_
    refine .alloc (.no rfl) rfl z39 rfl rfl rfl ?_
    refine .assign (.no rfl) rfl rfl rfl rfl ?_
    exact .fin (k1, k1 + 1, k1 + 1 + 1) (.of (.cons rfl (.cons rfl (.cons rfl .nil))) (.cons rfl (.cons rfl (.cons rfl .nil))))
  rintro ⟨g2, g3, g4⟩
  refine .seq ?_
  refine .reg (X := Nat × Nat) (fun ζ => .of [(2, .one (.ptr [2] (g2) 0)), (3, .one (.ptr [3] (g3) 0)), (4, .one (.ptr [4] (g4) 0)), (6, .one (.ptr [6] (ζ.1) 0))] [([2], (g2, g2, .box [.d (.v (.int .i64 (a.lo))), .d (.v (.int .i64 (a.hi)))])), ([3], (g3, g3, .box [.d (.v (.int .i64 (b.lo))), .d (.v (.int .i64 (b.hi)))])), ([4], (g4, g4, .box [.d (.v (.int .i64 (0))), .d (.v (.int .i64 (0)))])), ([6], (ζ.1, ζ.2, .box [.d (.v (.int .i64 (max a.lo b.lo))), .d (.v (.int .i64 (min a.hi b.hi)))]))]) [⟨[2], some 7, [], []⟩, ⟨[7], some 8, [[2]], []⟩, ⟨[3], some 9, [], []⟩, ⟨[9], some 10, [[3]], []⟩, ⟨[8, 10], some 11, [], []⟩, ⟨[2], some 12, [], []⟩, ⟨[12], some 13, [[2]], []⟩, ⟨[3], some 14, [], []⟩, ⟨[14], some 15, [[3]], []⟩, ⟨[13, 15], some 16, [], []⟩, ⟨[11, 16], some 17, [], []⟩, ⟨[], some 6, [], [[6]]⟩, ⟨[6, 17], none, [[6]], [[6]]⟩] (fun k5 => ?_) ?_
  · skip
    refine .fieldAddrP (.no rfl) rfl t39 rfl rfl t2 rfl rfl rfl rfl ?_
    refine .load (.no rfl) rfl t2 rfl rfl (.ptr _ _ _ _ _ rfl) rfl rfl rfl rfl ?_
    refine .fieldAddrP (.no rfl) rfl t39 rfl rfl t2 rfl rfl rfl rfl ?_
    refine .load (.no rfl) rfl t2 rfl rfl (.ptr _ _ _ _ _ rfl) rfl rfl rfl rfl ?_
    refine .max (.no rfl) rfl rfl rfl rfl (max_of _ _) rfl ?_
    refine .fieldAddrP (.no rfl) rfl t39 rfl rfl t2 rfl rfl rfl rfl ?_
    refine .load (.no rfl) rfl t2 rfl rfl (.ptr _ _ _ _ _ rfl) rfl rfl rfl rfl ?_
    refine .fieldAddrP (.no rfl) rfl t39 rfl rfl t2 rfl rfl rfl rfl ?_
    refine .load (.no rfl) rfl t2 rfl rfl (.ptr _ _ _ _ _ rfl) rfl rfl rfl rfl ?_
    refine .min (.no rfl) rfl rfl rfl rfl (min_of _ _) rfl ?_
    refine .build (.no rfl) rfl z39 rfl p39 rfl rfl rfl rfl ?_
    refine .alloc (.no rfl) rfl z39 rfl rfl rfl ?_
    refine .store (.no rfl) rfl t39 rfl rfl rfl rfl rfl rfl rfl rfl rfl ?_
    exact .fin (k5 + 1 + 1 + 1 + 1 + 1 + 1 + 1 + 1 + 1 + 1 + 1, k5 + 1 + 1 + 1 + 1 + 1 + 1 + 1 + 1 + 1 + 1 + 1 + 1) (.of (.cons rfl (.cons rfl (.cons rfl (.cons rfl .nil)))) (.cons rfl (.cons rfl (.cons rfl (.cons rfl .nil)))))
  rintro ⟨g6, g7⟩
  refine .seq ?_
  refine .seq ?_
  refine .reg (X := Unit) (fun ζ => .of [(4, .one (.ptr [4] (g4) 0)), (6, .one (.ptr [6] (g6) 0)), (26, .one (.d (.v (.bool ((!(Iv.ok a && Iv.ok b) || !(Iv.ok (Iv.mk (max a.lo b.lo) (min a.hi b.hi)))))))))] [([4], (g4, g4, .box [.d (.v (.int .i64 (0))), .d (.v (.int .i64 (0)))])), ([6], (g6, g7, .box [.d (.v (.int .i64 (max a.lo b.lo))), .d (.v (.int .i64 (min a.hi b.hi)))]))]) [⟨[2], some 18, [[2]], []⟩, ⟨[3], some 19, [[3]], []⟩, ⟨[18, 19], some 20, [], []⟩, ⟨[20], some 21, [], []⟩, ⟨[21], some 22, [], []⟩, ⟨[22, 6], some 23, [[6]], []⟩, ⟨[22, 23], some 24, [], []⟩, ⟨[22, 24], some 25, [], []⟩, ⟨[22, 25], some 26, [], []⟩] (fun k8 => ?_) ?_
  · skip
    refine .load (.no rfl) rfl t39 rfl rfl (.ptr _ _ _ _ _ rfl) rfl rfl rfl rfl ?_
    refine .load (.no rfl) rfl t39 rfl rfl (.ptr _ _ _ _ _ rfl) rfl rfl rfl rfl ?_
    refine .call (.no rfl) rfl [] [] (c_areIvs a b) rfl rfl rfl rfl rfl (.cons (Reads.d _).gives (.cons (Reads.d _).gives (.cons (Reads.d _).gives (.cons (Reads.d _).gives .nil)))) rfl rfl (fun h => absurd rfl h) (.own [20, 0] .nil) (.nil) rfl rfl rfl (by simp) rfl rfl rfl ?_
    refine .un (.no rfl) rfl rfl rfl rfl rfl ?_
    refine .moveB (.no rfl) rfl rfl rfl rfl fun b9 g2_4 => ?_
    cases b9
    · skip
      refine .load (.on rfl rfl rfl rfl rfl) rfl t39 rfl rfl (.ptr _ _ _ _ _ rfl) rfl rfl rfl rfl ?_
      refine .call (.on rfl rfl rfl rfl rfl) rfl [] [] (c_IvOk (Iv.mk (max a.lo b.lo) (min a.hi b.hi))) rfl rfl rfl rfl rfl (.cons (Reads.d _).gives (.cons (Reads.d _).gives .nil)) rfl rfl (fun h => absurd rfl h) (.own [24, 0] .nil) (.nil) rfl rfl rfl (by simp) rfl rfl rfl ?_
      refine .un (.on rfl rfl rfl rfl rfl) rfl rfl rfl rfl rfl ?_
      refine .pick (.no rfl) rfl rfl rfl rfl rfl ?_
      exact .fin () (.of (.cons rfl (.cons rfl (.cons (svB (show (!(Iv.ok (Iv.mk (max a.lo b.lo) (min a.hi b.hi)))) = ((!(Iv.ok a && Iv.ok b) || !(Iv.ok (Iv.mk (max a.lo b.lo) (min a.hi b.hi))))) by first | (simp only [g2_4, Bool.true_or, Bool.false_or, Bool.true_and, Bool.false_and, Bool.not_true, Bool.not_false]; done) | simp [g2_4])) .nil))) (.cons rfl (.cons rfl .nil)))
    · skip
      refine .off rfl rfl rfl rfl rfl rfl rfl ?_
      refine .off rfl rfl rfl rfl rfl rfl rfl ?_
      refine .off rfl rfl rfl rfl rfl rfl rfl ?_
      refine .pick (.no rfl) rfl rfl rfl rfl rfl ?_
      exact .fin () (.of (.cons rfl (.cons rfl (.cons (svB (show (true) = ((!(Iv.ok a && Iv.ok b) || !(Iv.ok (Iv.mk (max a.lo b.lo) (min a.hi b.hi))))) by first | (simp only [g2_4, Bool.true_or, Bool.false_or, Bool.true_and, Bool.false_and, Bool.not_true, Bool.not_false]; done) | simp [g2_4])) .nil))) (.cons rfl (.cons rfl .nil)))
  intro _
  refine .cond (t := (!(Iv.ok a && Iv.ok b) || !(Iv.ok (Iv.mk (max a.lo b.lo) (min a.hi b.hi))))) rfl (fun c0 => ?_) (fun c0 => ?_)
  · have c0 := c0
    try simp only [Bool.or_eq_true, Bool.or_eq_false_iff, Bool.and_eq_true, Bool.and_eq_false_iff, decide_eq_true_eq, decide_eq_false_iff_not, Bool.not_eq_true', Bool.not_eq_false', bne_iff_ne, beq_iff_eq, bne_eq_false_iff_eq, beq_eq_false_iff_ne, ne_eq, Bool.not_eq_eq_eq_not, Bool.not_true, Bool.not_false] at c0
    refine .seq ?_
    refine .reg (X := Nat) (fun ζ => .of [(4, .one (.ptr [4] (g4) 0)), (5, .one (.d (.v (.bool (false)))))] [([4], (g4, ζ, .box [.d (.v (.int .i64 (0))), .d (.v (.int .i64 (0)))]))]) [⟨[], some 27, [], []⟩, ⟨[4, 27], none, [[4]], [[4]]⟩, ⟨[], some 5, [], []⟩] (fun k10 => ?_) ?_
    · skip
      refine .build (.no rfl) rfl z39 rfl p39 rfl rfl rfl rfl ?_
      refine .store (.no rfl) rfl t39 rfl rfl rfl rfl rfl rfl rfl rfl rfl ?_
      refine .assign (.no rfl) rfl rfl rfl rfl ?_
      exact .fin (k10 + 1) (.of (.cons rfl (.cons rfl .nil)) (.cons rfl .nil))
    intro g11
    refine .ret ?_
    have e12 : (0) = ((Iv.meetOk a b).lo) := by first | (rw [Iv.meets_no c0]) | (rw [Iv.meets_yes c0]) | (unfold Iv.meetOk; rw [Iv.meets_no c0]; rfl) | (unfold Iv.meetOk; rw [Iv.meets_yes c0]; rfl)
    have e13 : (0) = ((Iv.meetOk a b).hi) := by first | (rw [Iv.meets_no c0]) | (rw [Iv.meets_yes c0]) | (unfold Iv.meetOk; rw [Iv.meets_no c0]; rfl) | (unfold Iv.meetOk; rw [Iv.meets_yes c0]; rfl)
    have hc14 := eq2 (fun z1 z2 => some (g4, g11, O.box [.d (.v (.int .i64 (z1))), .d (.v (.int .i64 (z2)))])) e12 e13
    have e15 : (false) = (Iv.meets a b) := by first | (rw [Iv.meets_no c0]) | (rw [Iv.meets_yes c0]) | (unfold Iv.meetOk; rw [Iv.meets_no c0]; rfl) | (unfold Iv.meetOk; rw [Iv.meets_yes c0]; rfl)
    have hc16 := eq1 (fun z1 => SV.one (.d (.v (.bool (z1))))) e15
    show _ ∧ _
    exact ⟨.inr rfl, .done ⟨_, [], [], _, .cell (cells := [.d (.v (.int .i64 ((Iv.meetOk a b).lo))), .d (.v (.int .i64 ((Iv.meetOk a b).hi)))]) rfl hc14 t39 rfl rfl (.one (c := .d (.v (.bool (Iv.meets a b)))) (hc16) .nil), .cons (Reads.d _).gives (.cons (Reads.d _).gives (.cons (Reads.d _).gives .nil)), nodupB_ok rfl, by simp, (by simp)⟩⟩
  · have c0 := c0
    try simp only [Bool.or_eq_true, Bool.or_eq_false_iff, Bool.and_eq_true, Bool.and_eq_false_iff, decide_eq_true_eq, decide_eq_false_iff_not, Bool.not_eq_true', Bool.not_eq_false', bne_iff_ne, beq_iff_eq, bne_eq_false_iff_eq, beq_eq_false_iff_ne, ne_eq, Bool.not_eq_eq_eq_not, Bool.not_true, Bool.not_false] at c0
    refine .skip ?_
    refine .seq ?_
    refine .reg (X := Nat) (fun ζ => .of [(4, .one (.ptr [4] (g4) 0)), (5, .one (.d (.v (.bool (true)))))] [([4], (g4, ζ, .box [.d (.v (.int .i64 (max a.lo b.lo))), .d (.v (.int .i64 (min a.hi b.hi)))]))]) [⟨[6], some 28, [[6]], []⟩, ⟨[4, 28], none, [[4]], [[4]]⟩, ⟨[], some 5, [], []⟩] (fun k17 => ?_) ?_
    · skip
      refine .load (.no rfl) rfl t39 rfl rfl (.ptr _ _ _ _ _ rfl) rfl rfl rfl rfl ?_
      refine .store (.no rfl) rfl t39 rfl rfl rfl rfl rfl rfl rfl rfl rfl ?_
      refine .assign (.no rfl) rfl rfl rfl rfl ?_
      exact .fin (k17 + 1) (.of (.cons rfl (.cons rfl .nil)) (.cons rfl .nil))
    intro g18
    refine .ret ?_
    have e19 : (max a.lo b.lo) = ((Iv.meetOk a b).lo) := by first | (rw [Iv.meets_no c0]) | (rw [Iv.meets_yes c0]) | (unfold Iv.meetOk; rw [Iv.meets_no c0]; rfl) | (unfold Iv.meetOk; rw [Iv.meets_yes c0]; rfl)
    have e20 : (min a.hi b.hi) = ((Iv.meetOk a b).hi) := by first | (rw [Iv.meets_no c0]) | (rw [Iv.meets_yes c0]) | (unfold Iv.meetOk; rw [Iv.meets_no c0]; rfl) | (unfold Iv.meetOk; rw [Iv.meets_yes c0]; rfl)
    have hc21 := eq2 (fun z1 z2 => some (g4, g18, O.box [.d (.v (.int .i64 (z1))), .d (.v (.int .i64 (z2)))])) e19 e20
    have e22 : (true) = (Iv.meets a b) := by first | (rw [Iv.meets_no c0]) | (rw [Iv.meets_yes c0]) | (unfold Iv.meetOk; rw [Iv.meets_no c0]; rfl) | (unfold Iv.meetOk; rw [Iv.meets_yes c0]; rfl)
    have hc23 := eq1 (fun z1 => SV.one (.d (.v (.bool (z1))))) e22
    show _ ∧ _
    exact ⟨.inr rfl, .done ⟨_, [], [], _, .cell (cells := [.d (.v (.int .i64 ((Iv.meetOk a b).lo))), .d (.v (.int .i64 ((Iv.meetOk a b).hi)))]) rfl hc21 t39 rfl rfl (.one (c := .d (.v (.bool (Iv.meets a b)))) (hc23) .nil), .cons (Reads.d _).gives (.cons (Reads.d _).gives (.cons (Reads.d _).gives .nil)), nodupB_ok rfl, by simp, (by simp)⟩⟩
theorem c_sIvLeq (a : Iv) (b : Iv) : Trip Tryd.prog 141 [(true, 2), (true, 2)] (Iv.c a ++ Iv.c b) [(false, 1)] [.v (.bool (Iv.leq a b))] [] := by
  refine Trip.of Tryd.func141 (by decide) (c := _) rfl rfl (shB_ok rfl) (Nat.le_of_ble_eq_true rfl) rfl (AftOk.nil _) ?_
  refine .seq ?_
  refine .reg (X := Nat × Nat) (fun ζ => .of [(2, .one (.ptr [2] (ζ.1) 0)), (3, .one (.ptr [3] (ζ.2) 0))] [([2], (ζ.1, ζ.1, .box [.d (.v (.int .i64 (a.lo))), .d (.v (.int .i64 (a.hi)))])), ([3], (ζ.2, ζ.2, .box [.d (.v (.int .i64 (b.lo))), .d (.v (.int .i64 (b.hi)))]))]) [⟨[0], some 2, [], [[2]]⟩, ⟨[1], some 3, [], [[3]]⟩, ⟨[], some 4, [], []⟩] (fun k1 => ?_) ?_
  · skip
    refine .box (.no rfl) rfl rfl rfl rfl rfl ?_
    refine .box (.no rfl) rfl rfl rfl rfl rfl ?_
    refine .assign (.no rfl) rfl rfl rfl rfl ?_
    exact .fin (k1, k1 + 1) (.of (.cons rfl (.cons rfl .nil)) (.cons rfl (.cons rfl .nil)))
  rintro ⟨g2, g3⟩
  refine .seq ?_
  refine .reg (X := Unit) (fun ζ => .of [(4, .one (.d (.v (.bool ((((Iv.ok a && Iv.ok b) && decide (b.lo ≤ a.lo)) && decide (a.hi ≤ b.hi)))))))] []) [⟨[2], some 5, [[2]], []⟩, ⟨[5], some 6, [], []⟩, ⟨[6], some 7, [], []⟩, ⟨[7, 3], some 8, [[3]], []⟩, ⟨[7, 8], some 9, [], []⟩, ⟨[7, 9], some 10, [], []⟩, ⟨[10], some 11, [], []⟩, ⟨[11, 3], some 12, [], []⟩, ⟨[11, 12], some 13, [[3]], []⟩, ⟨[11, 2], some 14, [], []⟩, ⟨[11, 14], some 15, [[2]], []⟩, ⟨[11, 13, 15], some 16, [], []⟩, ⟨[11, 16], some 17, [], []⟩, ⟨[17], some 18, [], []⟩, ⟨[18, 2], some 19, [], []⟩, ⟨[18, 19], some 20, [[2]], []⟩, ⟨[18, 3], some 21, [], []⟩, ⟨[18, 21], some 22, [[3]], []⟩, ⟨[18, 20, 22], some 23, [], []⟩, ⟨[18, 23], some 24, [], []⟩, ⟨[24], some 4, [], []⟩] (fun k4 => ?_) ?_
  · skip
    refine .load (.no rfl) rfl t39 rfl rfl (.ptr _ _ _ _ _ rfl) rfl rfl rfl rfl ?_
    refine .call (.no rfl) rfl [] [] (c_sIvOk a) rfl rfl rfl rfl rfl (.cons (Reads.d _).gives (.cons (Reads.d _).gives .nil)) rfl rfl (fun h => absurd rfl h) (.own [6, 0] .nil) (.nil) rfl rfl rfl (by simp) rfl rfl rfl ?_
    refine .moveB (.no rfl) rfl rfl rfl rfl fun b5 g1_2 => ?_
    cases b5
    · skip
      refine .off rfl rfl rfl rfl rfl rfl rfl ?_
      refine .off rfl rfl rfl rfl rfl rfl rfl ?_
      refine .pick (.no rfl) rfl rfl rfl rfl rfl ?_
      refine .move (.no rfl) rfl rfl rfl rfl ?_
      refine .off rfl rfl rfl rfl rfl rfl rfl ?_
      refine .off rfl rfl rfl rfl rfl rfl rfl ?_
      refine .off rfl rfl rfl rfl rfl rfl rfl ?_
      refine .off rfl rfl rfl rfl rfl rfl rfl ?_
      refine .off rfl rfl rfl rfl rfl rfl rfl ?_
      refine .pick (.no rfl) rfl rfl rfl rfl rfl ?_
      refine .move (.no rfl) rfl rfl rfl rfl ?_
      refine .off rfl rfl rfl rfl rfl rfl rfl ?_
      refine .off rfl rfl rfl rfl rfl rfl rfl ?_
      refine .off rfl rfl rfl rfl rfl rfl rfl ?_
      refine .off rfl rfl rfl rfl rfl rfl rfl ?_
      refine .off rfl rfl rfl rfl rfl rfl rfl ?_
      refine .pick (.no rfl) rfl rfl rfl rfl rfl ?_
      refine .assign (.no rfl) rfl rfl rfl rfl ?_
      exact .fin () (.of (.cons (svB (show (false) = ((((Iv.ok a && Iv.ok b) && decide (b.lo ≤ a.lo)) && decide (a.hi ≤ b.hi))) by first | (simp only [g1_2, Bool.true_or, Bool.false_or, Bool.true_and, Bool.false_and, Bool.not_true, Bool.not_false]; done) | simp [g1_2])) .nil) .nil)
    · skip
      refine .load (.on rfl rfl rfl rfl rfl) rfl t39 rfl rfl (.ptr _ _ _ _ _ rfl) rfl rfl rfl rfl ?_
      refine .call (.on rfl rfl rfl rfl rfl) rfl [] [] (c_sIvOk b) rfl rfl rfl rfl rfl (.cons (Reads.d _).gives (.cons (Reads.d _).gives .nil)) rfl rfl (fun h => absurd rfl h) (.own [9, 0] .nil) (.nil) rfl rfl rfl (by simp) rfl rfl rfl ?_
      refine .pick (.no rfl) rfl rfl rfl rfl rfl ?_
      refine .moveB (.no rfl) rfl rfl rfl rfl fun b6 g1_6 => ?_
      cases b6
      · skip
        refine .off rfl rfl rfl rfl rfl rfl rfl ?_
        refine .off rfl rfl rfl rfl rfl rfl rfl ?_
        refine .off rfl rfl rfl rfl rfl rfl rfl ?_
        refine .off rfl rfl rfl rfl rfl rfl rfl ?_
        refine .off rfl rfl rfl rfl rfl rfl rfl ?_
        refine .pick (.no rfl) rfl rfl rfl rfl rfl ?_
        refine .move (.no rfl) rfl rfl rfl rfl ?_
        refine .off rfl rfl rfl rfl rfl rfl rfl ?_
        refine .off rfl rfl rfl rfl rfl rfl rfl ?_
        refine .off rfl rfl rfl rfl rfl rfl rfl ?_
        refine .off rfl rfl rfl rfl rfl rfl rfl ?_
        refine .off rfl rfl rfl rfl rfl rfl rfl ?_
        refine .pick (.no rfl) rfl rfl rfl rfl rfl ?_
        refine .assign (.no rfl) rfl rfl rfl rfl ?_
        exact .fin () (.of (.cons (svB (show (false) = ((((Iv.ok a && Iv.ok b) && decide (b.lo ≤ a.lo)) && decide (a.hi ≤ b.hi))) by first | (simp only [g1_2, g1_6, Bool.true_or, Bool.false_or, Bool.true_and, Bool.false_and, Bool.not_true, Bool.not_false]; done) | simp [g1_2, g1_6])) .nil) .nil)
      · skip
        refine .fieldAddrP (.on rfl rfl rfl rfl rfl) rfl t39 rfl rfl t2 rfl rfl rfl rfl ?_
        refine .load (.on rfl rfl rfl rfl rfl) rfl t2 rfl rfl (.ptr _ _ _ _ _ rfl) rfl rfl rfl rfl ?_
        refine .fieldAddrP (.on rfl rfl rfl rfl rfl) rfl t39 rfl rfl t2 rfl rfl rfl rfl ?_
        refine .load (.on rfl rfl rfl rfl rfl) rfl t2 rfl rfl (.ptr _ _ _ _ _ rfl) rfl rfl rfl rfl ?_
        refine .bin (.on rfl rfl rfl rfl rfl) rfl rfl rfl rfl rfl rfl ?_
        refine .pick (.no rfl) rfl rfl rfl rfl rfl ?_
        refine .moveB (.no rfl) rfl rfl rfl rfl fun b7 g1_13 => ?_
        cases b7
        · skip
          refine .off rfl rfl rfl rfl rfl rfl rfl ?_
          refine .off rfl rfl rfl rfl rfl rfl rfl ?_
          refine .off rfl rfl rfl rfl rfl rfl rfl ?_
          refine .off rfl rfl rfl rfl rfl rfl rfl ?_
          refine .off rfl rfl rfl rfl rfl rfl rfl ?_
          refine .pick (.no rfl) rfl rfl rfl rfl rfl ?_
          refine .assign (.no rfl) rfl rfl rfl rfl ?_
          exact .fin () (.of (.cons (svB (show (false) = ((((Iv.ok a && Iv.ok b) && decide (b.lo ≤ a.lo)) && decide (a.hi ≤ b.hi))) by first | (simp only [g1_2, g1_6, g1_13, Bool.true_or, Bool.false_or, Bool.true_and, Bool.false_and, Bool.not_true, Bool.not_false]; done) | simp [g1_2, g1_6, g1_13])) .nil) .nil)
        · skip
          refine .fieldAddrP (.on rfl rfl rfl rfl rfl) rfl t39 rfl rfl t2 rfl rfl rfl rfl ?_
          refine .load (.on rfl rfl rfl rfl rfl) rfl t2 rfl rfl (.ptr _ _ _ _ _ rfl) rfl rfl rfl rfl ?_
          refine .fieldAddrP (.on rfl rfl rfl rfl rfl) rfl t39 rfl rfl t2 rfl rfl rfl rfl ?_
          refine .load (.on rfl rfl rfl rfl rfl) rfl t2 rfl rfl (.ptr _ _ _ _ _ rfl) rfl rfl rfl rfl ?_
          refine .bin (.on rfl rfl rfl rfl rfl) rfl rfl rfl rfl rfl rfl ?_
          refine .pick (.no rfl) rfl rfl rfl rfl rfl ?_
          refine .assign (.no rfl) rfl rfl rfl rfl ?_
          exact .fin () (.of (.cons (svB (show (decide (a.hi ≤ b.hi)) = ((((Iv.ok a && Iv.ok b) && decide (b.lo ≤ a.lo)) && decide (a.hi ≤ b.hi))) by first | (simp only [g1_2, g1_6, g1_13, Bool.true_or, Bool.false_or, Bool.true_and, Bool.false_and, Bool.not_true, Bool.not_false]; done) | simp [g1_2, g1_6, g1_13])) .nil) .nil)
  intro _
  refine .ret ?_
  have e8 : ((((Iv.ok a && Iv.ok b) && decide (b.lo ≤ a.lo)) && decide (a.hi ≤ b.hi))) = (Iv.leq a b) := by rfl
  have hc9 := eq1 (fun z1 => SV.one (.d (.v (.bool (z1))))) e8
  show _ ∧ _
  exact ⟨.inr rfl, .done ⟨_, [], [], _, .one (c := .d (.v (.bool (Iv.leq a b)))) (hc9) .nil, .cons (Reads.d _).gives .nil, nodupB_ok rfl, by simp, (by simp)⟩⟩
theorem c_IvLeq (a : Iv) (b : Iv) : Trip Tryd.prog 101 [(true, 2), (true, 2)] (Iv.c a ++ Iv.c b) [(false, 1)] [.v (.bool (Iv.leq a b))] [] := by
  refine Trip.of Tryd.func101 (by decide) (c := _) rfl rfl (shB_ok rfl) (Nat.le_of_ble_eq_true rfl) rfl (AftOk.nil _) ?_
  refine .seq ?_
  refine .reg (X := Nat × Nat) (fun ζ => .of [(2, .one (.ptr [2] (ζ.1) 0)), (3, .one (.ptr [3] (ζ.2) 0))] [([2], (ζ.1, ζ.1, .box [.d (.v (.int .i64 (a.lo))), .d (.v (.int .i64 (a.hi)))])), ([3], (ζ.2, ζ.2, .box [.d (.v (.int .i64 (b.lo))), .d (.v (.int .i64 (b.hi)))]))]) [⟨[0], some 2, [], [[2]]⟩, ⟨[1], some 3, [], [[3]]⟩, ⟨[], some 4, [], []⟩] (fun k1 => ?_) ?_
  · skip
    refine .box (.no rfl) rfl rfl rfl rfl rfl ?_
    refine .box (.no rfl) rfl rfl rfl rfl rfl ?_
    refine .assign (.no rfl) rfl rfl rfl rfl ?_
    exact .fin (k1, k1 + 1) (.of (.cons rfl (.cons rfl .nil)) (.cons rfl (.cons rfl .nil)))
  rintro ⟨g2, g3⟩
  refine .seq ?_
  refine .reg (X := Unit) (fun ζ => .of [(4, .one (.d (.v (.bool (((Iv.ok a && Iv.ok b && decide (b.lo ≤ a.lo)) && decide (a.hi ≤ b.hi)))))))] []) [⟨[2], some 5, [[2]], []⟩, ⟨[3], some 6, [[3]], []⟩, ⟨[5, 6], some 7, [], []⟩, ⟨[7], some 8, [], []⟩, ⟨[8, 3], some 9, [], []⟩, ⟨[8, 9], some 10, [[3]], []⟩, ⟨[8, 2], some 11, [], []⟩, ⟨[8, 11], some 12, [[2]], []⟩, ⟨[8, 10, 12], some 13, [], []⟩, ⟨[8, 13], some 14, [], []⟩, ⟨[14], some 15, [], []⟩, ⟨[15, 2], some 16, [], []⟩, ⟨[15, 16], some 17, [[2]], []⟩, ⟨[15, 3], some 18, [], []⟩, ⟨[15, 18], some 19, [[3]], []⟩, ⟨[15, 17, 19], some 20, [], []⟩, ⟨[15, 20], some 21, [], []⟩, ⟨[21], some 4, [], []⟩] (fun k4 => ?_) ?_
  · skip
    refine .load (.no rfl) rfl t39 rfl rfl (.ptr _ _ _ _ _ rfl) rfl rfl rfl rfl ?_
    refine .load (.no rfl) rfl t39 rfl rfl (.ptr _ _ _ _ _ rfl) rfl rfl rfl rfl ?_
    refine .call (.no rfl) rfl [] [] (c_areIvs a b) rfl rfl rfl rfl rfl (.cons (Reads.d _).gives (.cons (Reads.d _).gives (.cons (Reads.d _).gives (.cons (Reads.d _).gives .nil)))) rfl rfl (fun h => absurd rfl h) (.own [7, 0] .nil) (.nil) rfl rfl rfl (by simp) rfl rfl rfl ?_
    refine .moveB (.no rfl) rfl rfl rfl rfl fun b5 g1_3 => ?_
    cases b5
    · skip
      refine .off rfl rfl rfl rfl rfl rfl rfl ?_
      refine .off rfl rfl rfl rfl rfl rfl rfl ?_
      refine .off rfl rfl rfl rfl rfl rfl rfl ?_
      refine .off rfl rfl rfl rfl rfl rfl rfl ?_
      refine .off rfl rfl rfl rfl rfl rfl rfl ?_
      refine .pick (.no rfl) rfl rfl rfl rfl rfl ?_
      refine .move (.no rfl) rfl rfl rfl rfl ?_
      refine .off rfl rfl rfl rfl rfl rfl rfl ?_
      refine .off rfl rfl rfl rfl rfl rfl rfl ?_
      refine .off rfl rfl rfl rfl rfl rfl rfl ?_
      refine .off rfl rfl rfl rfl rfl rfl rfl ?_
      refine .off rfl rfl rfl rfl rfl rfl rfl ?_
      refine .pick (.no rfl) rfl rfl rfl rfl rfl ?_
      refine .assign (.no rfl) rfl rfl rfl rfl ?_
      exact .fin () (.of (.cons (svB (show (false) = (((Iv.ok a && Iv.ok b && decide (b.lo ≤ a.lo)) && decide (a.hi ≤ b.hi))) by first | (simp only [g1_3, Bool.true_or, Bool.false_or, Bool.true_and, Bool.false_and, Bool.not_true, Bool.not_false]; done) | simp [g1_3])) .nil) .nil)
    · skip
      refine .fieldAddrP (.on rfl rfl rfl rfl rfl) rfl t39 rfl rfl t2 rfl rfl rfl rfl ?_
      refine .load (.on rfl rfl rfl rfl rfl) rfl t2 rfl rfl (.ptr _ _ _ _ _ rfl) rfl rfl rfl rfl ?_
      refine .fieldAddrP (.on rfl rfl rfl rfl rfl) rfl t39 rfl rfl t2 rfl rfl rfl rfl ?_
      refine .load (.on rfl rfl rfl rfl rfl) rfl t2 rfl rfl (.ptr _ _ _ _ _ rfl) rfl rfl rfl rfl ?_
      refine .bin (.on rfl rfl rfl rfl rfl) rfl rfl rfl rfl rfl rfl ?_
      refine .pick (.no rfl) rfl rfl rfl rfl rfl ?_
      refine .moveB (.no rfl) rfl rfl rfl rfl fun b6 g1_10 => ?_
      cases b6
      · skip
        refine .off rfl rfl rfl rfl rfl rfl rfl ?_
        refine .off rfl rfl rfl rfl rfl rfl rfl ?_
        refine .off rfl rfl rfl rfl rfl rfl rfl ?_
        refine .off rfl rfl rfl rfl rfl rfl rfl ?_
        refine .off rfl rfl rfl rfl rfl rfl rfl ?_
        refine .pick (.no rfl) rfl rfl rfl rfl rfl ?_
        refine .assign (.no rfl) rfl rfl rfl rfl ?_
        exact .fin () (.of (.cons (svB (show (false) = (((Iv.ok a && Iv.ok b && decide (b.lo ≤ a.lo)) && decide (a.hi ≤ b.hi))) by first | (simp only [g1_3, g1_10, Bool.true_or, Bool.false_or, Bool.true_and, Bool.false_and, Bool.not_true, Bool.not_false]; done) | simp [g1_3, g1_10])) .nil) .nil)
      · skip
        refine .fieldAddrP (.on rfl rfl rfl rfl rfl) rfl t39 rfl rfl t2 rfl rfl rfl rfl ?_
        refine .load (.on rfl rfl rfl rfl rfl) rfl t2 rfl rfl (.ptr _ _ _ _ _ rfl) rfl rfl rfl rfl ?_
        refine .fieldAddrP (.on rfl rfl rfl rfl rfl) rfl t39 rfl rfl t2 rfl rfl rfl rfl ?_
        refine .load (.on rfl rfl rfl rfl rfl) rfl t2 rfl rfl (.ptr _ _ _ _ _ rfl) rfl rfl rfl rfl ?_
        refine .bin (.on rfl rfl rfl rfl rfl) rfl rfl rfl rfl rfl rfl ?_
        refine .pick (.no rfl) rfl rfl rfl rfl rfl ?_
        refine .assign (.no rfl) rfl rfl rfl rfl ?_
        exact .fin () (.of (.cons (svB (show (decide (a.hi ≤ b.hi)) = (((Iv.ok a && Iv.ok b && decide (b.lo ≤ a.lo)) && decide (a.hi ≤ b.hi))) by first | (simp only [g1_3, g1_10, Bool.true_or, Bool.false_or, Bool.true_and, Bool.false_and, Bool.not_true, Bool.not_false]; done) | simp [g1_3, g1_10])) .nil) .nil)
  intro _
  refine .ret ?_
  have e7 : (((Iv.ok a && Iv.ok b && decide (b.lo ≤ a.lo)) && decide (a.hi ≤ b.hi))) = (Iv.leq a b) := by rfl
  have hc8 := eq1 (fun z1 => SV.one (.d (.v (.bool (z1))))) e7
  show _ ∧ _
  exact ⟨.inr rfl, .done ⟨_, [], [], _, .one (c := .d (.v (.bool (Iv.leq a b)))) (hc8) .nil, .cons (Reads.d _).gives .nil, nodupB_ok rfl, by simp, (by simp)⟩⟩
end Go.Proofs

namespace Go.Proofs
open Go Go.Proofs Go.Ev

theorem c_l7Place (p : Iv) (s : Int) : Trip Tryd.prog 108 [(true, 2), (false, 1)] (Iv.c p ++ [.v (.int .i64 (s))]) [(false, 1), (false, 1)] [.v (.bool (Iv.meets p (allOf s))), .v (.int .i64 (alarmOf p s))] [] := by
  refine Trip.of Tryd.func108 (by decide) (c := _) rfl rfl (shB_ok rfl) (Nat.le_of_ble_eq_true rfl) rfl (AftOk.nil _) ?_
  refine .seq ?_
  refine .reg (X := Nat) (fun ζ => .of [(1, .one (.d (.v (.int .i64 (s))))), (2, .one (.ptr [2] (ζ) 0))] [([2], (ζ, ζ, .box [.d (.v (.int .i64 (p.lo))), .d (.v (.int .i64 (p.hi)))]))]) [⟨[0], some 2, [], [[2]]⟩, ⟨[], some 4, [], []⟩, ⟨[], some 5, [], []⟩] (fun k1 => ?_) ?_
  · skip
    refine .box (.no rfl) rfl rfl rfl rfl rfl ?_
    refine .assign (.no rfl) rfl rfl rfl rfl ?_
    refine .assign (.no rfl) rfl rfl rfl rfl ?_
    exact .fin k1 (.of (.cons rfl (.cons rfl .nil)) (.cons rfl .nil))
  intro g2
  refine .seq ?_
  refine .reg (X := Nat × Nat) (fun ζ => .of [(2, .one (.ptr [2] (g2) 0)), (6, .one (.ptr [6] (ζ.1) 0))] [([2], (g2, g2, .box [.d (.v (.int .i64 (p.lo))), .d (.v (.int .i64 (p.hi)))])), ([6], (ζ.1, ζ.2, .box [.d (.v (.int .i64 (0))), .d (.v (.int .i64 (IntKind.wrap .i64 (s - 1))))]))]) [⟨[1], some 9, [], []⟩, ⟨[9], some 10, [], []⟩, ⟨[10], some 11, [], []⟩, ⟨[], some 6, [], [[6]]⟩, ⟨[6, 11], none, [[6]], [[6]]⟩] (fun k3 => ?_) ?_
  · skip
    refine .move (.no rfl) rfl rfl rfl rfl ?_
    refine .bin (.no rfl) rfl rfl rfl rfl rfl rfl ?_
    refine .build (.no rfl) rfl z39 rfl p39 rfl rfl rfl rfl ?_
    refine .alloc (.no rfl) rfl z39 rfl rfl rfl ?_
    refine .store (.no rfl) rfl t39 rfl rfl rfl rfl rfl rfl rfl rfl rfl ?_
    exact .fin (k3 + 1 + 1 + 1, k3 + 1 + 1 + 1 + 1) (.of (.cons rfl (.cons rfl .nil)) (.cons rfl (.cons rfl .nil)))
  rintro ⟨g4, g5⟩
  refine .seq ?_
  refine .reg (X := Unit) (fun ζ => .of [(2, .one (.ptr [2] (g2) 0)), (6, .one (.ptr [6] (g4) 0)), (8, .one (.d (.v (.bool (Iv.meets p (Iv.mk 0 (IntKind.wrap .i64 (s - 1))))))))] [([2], (g2, g2, .box [.d (.v (.int .i64 (p.lo))), .d (.v (.int .i64 (p.hi)))])), ([6], (g4, g5, .box [.d (.v (.int .i64 (0))), .d (.v (.int .i64 (IntKind.wrap .i64 (s - 1))))]))]) [⟨[2], some 13, [[2]], []⟩, ⟨[6], some 14, [[6]], []⟩, ⟨[13, 14], some 15, [], []⟩, ⟨[15], some 12, [], []⟩, ⟨[12], some 16, [], []⟩, ⟨[12], some 17, [], []⟩, ⟨[], some 7, [], [[7]]⟩, ⟨[7, 16], none, [[7]], [[7]]⟩, ⟨[17], some 8, [], []⟩] (fun k6 => ?_) ?_
  · skip
    refine .load (.no rfl) rfl t39 rfl rfl (.ptr _ _ _ _ _ rfl) rfl rfl rfl rfl ?_
    refine .load (.no rfl) rfl t39 rfl rfl (.ptr _ _ _ _ _ rfl) rfl rfl rfl rfl ?_
    refine .call (.no rfl) rfl [] [] (c_sIvMeet p (Iv.mk 0 (IntKind.wrap .i64 (s - 1)))) rfl rfl rfl rfl rfl (.cons (Reads.d _).gives (.cons (Reads.d _).gives (.cons (Reads.d _).gives (.cons (Reads.d _).gives .nil)))) rfl rfl (fun h => absurd rfl h) (.own [15, 0] (.own [15, 1] (.own [15, 2] .nil))) (.nil) rfl rfl rfl (by simp) rfl rfl rfl ?_
    refine .move (.no rfl) rfl rfl rfl rfl ?_
    refine .extract (.no rfl) rfl rfl rfl rfl rfl ?_
    refine .extract (.no rfl) rfl rfl rfl rfl rfl ?_
    refine .alloc (.no rfl) rfl z39 rfl rfl rfl ?_
    refine .store (.no rfl) rfl t39 rfl rfl rfl rfl rfl rfl rfl rfl rfl ?_
    refine .assign (.no rfl) rfl rfl rfl rfl ?_
    exact .fin () (.of (.cons rfl (.cons rfl (.cons rfl .nil))) (.cons rfl (.cons rfl .nil)))
  intro _
  refine .seq ?_
  refine .seq ?_
  refine .reg (X := Unit) (fun ζ => .of [(8, .one (.d (.v (.bool (Iv.meets p (Iv.mk 0 (IntKind.wrap .i64 (s - 1)))))))), (20, .one (.d (.v (.bool (Iv.leq p (Iv.mk 0 (IntKind.wrap .i64 (s - 1))))))))] []) [⟨[2], some 18, [[2]], []⟩, ⟨[6], some 19, [[6]], []⟩, ⟨[18, 19], some 20, [], []⟩] (fun k7 => ?_) ?_
  · skip
    refine .load (.no rfl) rfl t39 rfl rfl (.ptr _ _ _ _ _ rfl) rfl rfl rfl rfl ?_
    refine .load (.no rfl) rfl t39 rfl rfl (.ptr _ _ _ _ _ rfl) rfl rfl rfl rfl ?_
    refine .call (.no rfl) rfl [] [] (c_sIvLeq p (Iv.mk 0 (IntKind.wrap .i64 (s - 1)))) rfl rfl rfl rfl rfl (.cons (Reads.d _).gives (.cons (Reads.d _).gives (.cons (Reads.d _).gives (.cons (Reads.d _).gives .nil)))) rfl rfl (fun h => absurd rfl h) (.own [20, 0] .nil) (.nil) rfl rfl rfl (by simp) rfl rfl rfl ?_
    exact .fin () (.of (.cons rfl (.cons rfl .nil)) .nil)
  intro _
  refine .cond (t := Iv.leq p (Iv.mk 0 (IntKind.wrap .i64 (s - 1)))) rfl (fun c0 => ?_) (fun c0 => ?_)
  · have c0 := c0
    refine .seq ?_
    refine .reg (X := Unit) (fun ζ => .of [(4, .one (.d (.v (.bool (Iv.meets p (Iv.mk 0 (IntKind.wrap .i64 (s - 1)))))))), (5, .one (.d (.v (.int .i64 (0)))))] []) [⟨[8], some 21, [], []⟩, ⟨[21], some 4, [], []⟩, ⟨[], some 5, [], []⟩] (fun k8 => ?_) ?_
    · skip
      refine .move (.no rfl) rfl rfl rfl rfl ?_
      refine .assign (.no rfl) rfl rfl rfl rfl ?_
      refine .assign (.no rfl) rfl rfl rfl rfl ?_
      exact .fin () (.of (.cons rfl (.cons rfl .nil)) .nil)
    intro _
    refine .ret ?_
    have e9 : (Iv.meets p (Iv.mk 0 (IntKind.wrap .i64 (s - 1)))) = (Iv.meets p (allOf s)) := by first | exact alarm_yes c0 | exact alarm_no c0 | rfl
    have hc10 := eq1 (fun z1 => SV.one (.d (.v (.bool (z1))))) e9
    have e11 : (0) = (alarmOf p s) := by first | exact alarm_yes c0 | exact alarm_no c0 | rfl
    have hc12 := eq1 (fun z1 => SV.one (.d (.v (.int .i64 (z1))))) e11
    show _ ∧ _
    exact ⟨.inr rfl, .done ⟨_, [], [], _, .one (c := .d (.v (.bool (Iv.meets p (allOf s))))) (hc10) (.one (c := .d (.v (.int .i64 (alarmOf p s)))) (hc12) .nil), .cons (Reads.d _).gives (.cons (Reads.d _).gives .nil), nodupB_ok rfl, by simp, (by simp)⟩⟩
  · have c0 := c0
    refine .skip ?_
    refine .seq ?_
    refine .reg (X := Unit) (fun ζ => .of [(4, .one (.d (.v (.bool (Iv.meets p (Iv.mk 0 (IntKind.wrap .i64 (s - 1)))))))), (5, .one (.d (.v (.int .i64 (2)))))] []) [⟨[8], some 22, [], []⟩, ⟨[22], some 4, [], []⟩, ⟨[], some 5, [], []⟩] (fun k13 => ?_) ?_
    · skip
      refine .move (.no rfl) rfl rfl rfl rfl ?_
      refine .assign (.no rfl) rfl rfl rfl rfl ?_
      refine .assign (.no rfl) rfl rfl rfl rfl ?_
      exact .fin () (.of (.cons rfl (.cons rfl .nil)) .nil)
    intro _
    refine .ret ?_
    have e14 : (Iv.meets p (Iv.mk 0 (IntKind.wrap .i64 (s - 1)))) = (Iv.meets p (allOf s)) := by first | exact alarm_yes c0 | exact alarm_no c0 | rfl
    have hc15 := eq1 (fun z1 => SV.one (.d (.v (.bool (z1))))) e14
    have e16 : (2) = (alarmOf p s) := by first | exact alarm_yes c0 | exact alarm_no c0 | rfl
    have hc17 := eq1 (fun z1 => SV.one (.d (.v (.int .i64 (z1))))) e16
    show _ ∧ _
    exact ⟨.inr rfl, .done ⟨_, [], [], _, .one (c := .d (.v (.bool (Iv.meets p (allOf s))))) (hc15) (.one (c := .d (.v (.int .i64 (alarmOf p s)))) (hc17) .nil), .cons (Reads.d _).gives (.cons (Reads.d _).gives .nil), nodupB_ok rfl, by simp, (by simp)⟩⟩
theorem c_l7Put (d : Decl) (e : Env) (v : Int) (p : Iv) (a : Iv) (hv : (0 ≤ v ∧ v < (e.arrs.length : Int) ∧ v < (d.arrays.length : Int) ∧ 1 ≤ (d.arrays.getD v.toNat default).size ∧ (d.arrays.getD v.toNat default).size ≤ 16 ∧ Iv.ok (e.arrs.getD v.toNat default) = true) ∧ Iv.ok a = true) (hb : e.ints.length ≤ 1048576 ∧ e.arrs.length ≤ 1048576) : Trip Tryd.prog 64 [(true, 3), (true, 3), (false, 1), (true, 2), (true, 2)] (Decl.c27 d ++ Env.c30 e ++ [.v (.int .i64 (v))] ++ Iv.c p ++ Iv.c a) [(true, 3), (false, 1)] [.v (.bool ((Env.put d e v p a).live)), .sl true 39 2 (List.map Iv.c ((Env.put d e v p a).ints)), .sl true 39 2 (List.map Iv.c ((Env.put d e v p a).arrs)), .v (.int .i64 (Env.putAl d v p))] [] := by
  refine Trip.of Tryd.func64 (by decide) (c := _) rfl rfl (shB_ok rfl) (Nat.le_of_ble_eq_true rfl) rfl (AftOk.nil _) ?_
  refine .satA (t := 0) (i := 0) rfl rfl (fun hs1 => ?_)
  have hs1l : d.vars.length ≤ 9223372036854775807 := hs1.maplen
  refine .satA (t := 0) (i := 1) rfl rfl (fun hs2 => ?_)
  have hs2l : d.flags.length ≤ 9223372036854775807 := hs2.maplen
  refine .satA (t := 0) (i := 2) rfl rfl (fun hs3 => ?_)
  have hs3l : d.arrays.length ≤ 9223372036854775807 := hs3.maplen
  refine .satA (t := 1) (i := 1) rfl rfl (fun hs4 => ?_)
  have hs4l : e.ints.length ≤ 9223372036854775807 := hs4.maplen
  refine .satA (t := 1) (i := 2) rfl rfl (fun hs5 => ?_)
  have hs5l : e.arrs.length ≤ 9223372036854775807 := hs5.maplen
  refine .seq ?_
  refine .reg (X := Nat × Nat × Nat × Nat × Nat) (fun ζ => .of [(2, .one (.d (.v (.int .i64 (v))))), (5, .one (.ptr [5] (ζ.1) 0)), (6, .one (.ptr [6] (ζ.2.1) 0)), (8, .one (.ptr [8] (ζ.2.2.1) 0)), (9, .one (.ptr [9] (ζ.2.2.2.1) 0)), (10, .one (.ptr [10] (ζ.2.2.2.2) 0))] [([5], (ζ.1, ζ.1, .box [.d (.sl false 9 1 (List.map strc (d.vars))), .d (.sl false 9 1 (List.map strc (d.flags))), .d (.sl false 52 2 (List.map Arr.c (d.arrays)))])), ([6], (ζ.2.1, ζ.2.1, .box [.d (.v (.bool (e.live))), .d (.sl false 39 2 (List.map Iv.c (e.ints))), .d (.sl false 39 2 (List.map Iv.c (e.arrs)))])), ([8], (ζ.2.2.1, ζ.2.2.1, .box [.d (.v (.int .i64 (p.lo))), .d (.v (.int .i64 (p.hi)))])), ([9], (ζ.2.2.2.1, ζ.2.2.2.1, .box [.d (.v (.int .i64 (a.lo))), .d (.v (.int .i64 (a.hi)))])), ([10], (ζ.2.2.2.2, ζ.2.2.2.2, .box [.d (.v (.bool (false))), .d (.v (.slice none 0 0)), .d (.v (.slice none 0 0))]))]) [⟨[0], some 5, [], [[5]]⟩, ⟨[1], some 6, [], [[6]]⟩, ⟨[3], some 8, [], [[8]]⟩, ⟨[4], some 9, [], [[9]]⟩, ⟨[], some 10, [], [[10]]⟩, ⟨[], some 11, [], []⟩] (fun k6 => ?_) ?_
  · skip
    refine .box (.no rfl) rfl rfl rfl rfl rfl ?_
    refine .box (.no rfl) rfl rfl rfl rfl rfl ?_
    refine .box (.no rfl) rfl rfl rfl rfl rfl ?_
    refine .box (.no rfl) rfl rfl rfl rfl rfl ?_
    refine .alloc (.no rfl) rfl z30 rfl rfl rfl ?_
    refine .assign (.no rfl) rfl rfl rfl rfl ?_
    exact .fin (k6, k6 + 1, k6 + 1 + 1, k6 + 1 + 1 + 1, k6 + 1 + 1 + 1 + 1) (.of (.cons rfl (.cons rfl (.cons rfl (.cons rfl (.cons rfl (.cons rfl .nil)))))) (.cons rfl (.cons rfl (.cons rfl (.cons rfl (.cons rfl .nil))))))
  rintro ⟨g7, g8, g9, g10, g11⟩
  refine .seq ?_
  refine .reg (X := Unit) (fun ζ => .of [(2, .one (.d (.v (.int .i64 (v))))), (6, .one (.ptr [6] (g8) 0)), (8, .one (.ptr [8] (g9) 0)), (9, .one (.ptr [9] (g10) 0)), (10, .one (.ptr [10] (g11) 0)), (12, .one (.d (.v (.int .i64 ((d.arrays.getD v.toNat default).size)))))] [([6], (g8, g8, .box [.d (.v (.bool (e.live))), .d (.sl false 39 2 (List.map Iv.c (e.ints))), .d (.sl false 39 2 (List.map Iv.c (e.arrs)))])), ([8], (g9, g9, .box [.d (.v (.int .i64 (p.lo))), .d (.v (.int .i64 (p.hi)))])), ([9], (g10, g10, .box [.d (.v (.int .i64 (a.lo))), .d (.v (.int .i64 (a.hi)))])), ([10], (g11, g11, .box [.d (.v (.bool (false))), .d (.v (.slice none 0 0)), .d (.v (.slice none 0 0))]))]) [⟨[5], some 16, [], []⟩, ⟨[16], some 17, [[5]], []⟩, ⟨[2], some 18, [], []⟩, ⟨[17, 18], some 19, [], []⟩, ⟨[19], some 20, [], []⟩, ⟨[20], some 21, [], []⟩, ⟨[21], some 12, [], []⟩] (fun k12 => ?_) ?_
  · skip
    refine .fieldAddrP (.no rfl) rfl t27 rfl rfl t25 rfl rfl rfl rfl ?_
    refine .load (.no rfl) rfl t25 rfl rfl (.ptr _ _ _ _ _ rfl) rfl rfl rfl rfl ?_
    refine .move (.no rfl) rfl rfl rfl rfl ?_
    refine .indexAddr (.no rfl) rfl (v.toNat) t25 rfl t52 rfl rfl rfl (.d _ _) rfl rfl (by omega) (map_get (by omega)) rfl rfl ?_
    refine .fieldAddr (.no rfl) rfl t52 rfl rfl t2 rfl rfl rfl rfl [] (by simp) (by intro _ _ _ h; cases h) rfl rfl ?_
    refine .load (.no rfl) rfl t2 rfl rfl (.d _) rfl rfl rfl rfl ?_
    refine .assign (.no rfl) rfl rfl rfl rfl ?_
    exact .fin () (.of (.cons rfl (.cons rfl (.cons rfl (.cons rfl (.cons rfl (.cons rfl .nil)))))) (.cons rfl (.cons rfl (.cons rfl (.cons rfl .nil)))))
  intro _
  refine .seq ?_
  refine .reg (X := Unit) (fun ζ => .of [(2, .one (.d (.v (.int .i64 (v))))), (6, .one (.ptr [6] (g8) 0)), (9, .one (.ptr [9] (g10) 0)), (10, .one (.ptr [10] (g11) 0)), (12, .one (.d (.v (.int .i64 ((d.arrays.getD v.toNat default).size))))), (13, .one (.d (.v (.bool (Iv.meets p (allOf ((d.arrays.getD v.toNat default).size))))))), (14, .one (.d (.v (.int .i64 (alarmOf p ((d.arrays.getD v.toNat default).size))))))] [([6], (g8, g8, .box [.d (.v (.bool (e.live))), .d (.sl false 39 2 (List.map Iv.c (e.ints))), .d (.sl false 39 2 (List.map Iv.c (e.arrs)))])), ([9], (g10, g10, .box [.d (.v (.int .i64 (a.lo))), .d (.v (.int .i64 (a.hi)))])), ([10], (g11, g11, .box [.d (.v (.bool (false))), .d (.v (.slice none 0 0)), .d (.v (.slice none 0 0))]))]) [⟨[8], some 23, [[8]], []⟩, ⟨[12], some 24, [], []⟩, ⟨[23, 24], some 25, [], []⟩, ⟨[25], some 22, [], []⟩, ⟨[22], some 26, [], []⟩, ⟨[22], some 27, [], []⟩, ⟨[26], some 13, [], []⟩, ⟨[27], some 14, [], []⟩] (fun k13 => ?_) ?_
  · skip
    refine .load (.no rfl) rfl t39 rfl rfl (.ptr _ _ _ _ _ rfl) rfl rfl rfl rfl ?_
    refine .move (.no rfl) rfl rfl rfl rfl ?_
    refine .call (.no rfl) rfl [] [] (c_l7Place p ((d.arrays.getD v.toNat default).size)) rfl rfl rfl rfl rfl (.cons (Reads.d _).gives (.cons (Reads.d _).gives (.cons (Reads.d _).gives .nil))) rfl rfl (fun h => absurd rfl h) (.own [25, 0] (.own [25, 1] .nil)) (.nil) rfl rfl rfl (by simp) rfl rfl rfl ?_
    refine .move (.no rfl) rfl rfl rfl rfl ?_
    refine .extract (.no rfl) rfl rfl rfl rfl rfl ?_
    refine .extract (.no rfl) rfl rfl rfl rfl rfl ?_
    refine .assign (.no rfl) rfl rfl rfl rfl ?_
    refine .assign (.no rfl) rfl rfl rfl rfl ?_
    exact .fin () (.of (.cons rfl (.cons rfl (.cons rfl (.cons rfl (.cons rfl (.cons rfl (.cons rfl .nil))))))) (.cons rfl (.cons rfl (.cons rfl .nil))))
  intro _
  refine .seq ?_
  refine .seq ?_
  refine .reg (X := Unit) (fun ζ => .of [(2, .one (.d (.v (.int .i64 (v))))), (6, .one (.ptr [6] (g8) 0)), (9, .one (.ptr [9] (g10) 0)), (10, .one (.ptr [10] (g11) 0)), (12, .one (.d (.v (.int .i64 ((d.arrays.getD v.toNat default).size))))), (14, .one (.d (.v (.int .i64 (alarmOf p ((d.arrays.getD v.toNat default).size)))))), (29, .one (.d (.v (.bool (!(Iv.meets p (allOf ((d.arrays.getD v.toNat default).size))))))))] [([6], (g8, g8, .box [.d (.v (.bool (e.live))), .d (.sl false 39 2 (List.map Iv.c (e.ints))), .d (.sl false 39 2 (List.map Iv.c (e.arrs)))])), ([9], (g10, g10, .box [.d (.v (.int .i64 (a.lo))), .d (.v (.int .i64 (a.hi)))])), ([10], (g11, g11, .box [.d (.v (.bool (false))), .d (.v (.slice none 0 0)), .d (.v (.slice none 0 0))]))]) [⟨[13], some 28, [], []⟩, ⟨[28], some 29, [], []⟩] (fun k14 => ?_) ?_
  · skip
    refine .move (.no rfl) rfl rfl rfl rfl ?_
    refine .un (.no rfl) rfl rfl rfl rfl rfl ?_
    exact .fin () (.of (.cons rfl (.cons rfl (.cons rfl (.cons rfl (.cons rfl (.cons rfl (.cons rfl .nil))))))) (.cons rfl (.cons rfl (.cons rfl .nil))))
  intro _
  refine .cond (t := !(Iv.meets p (allOf ((d.arrays.getD v.toNat default).size)))) rfl (fun c0 => ?_) (fun c0 => ?_)
  · have c0 := c0
    try simp only [Bool.or_eq_true, Bool.or_eq_false_iff, Bool.and_eq_true, Bool.and_eq_false_iff, decide_eq_true_eq, decide_eq_false_iff_not, Bool.not_eq_true', Bool.not_eq_false', bne_iff_ne, beq_iff_eq, bne_eq_false_iff_eq, beq_eq_false_iff_ne, ne_eq, Bool.not_eq_eq_eq_not, Bool.not_true, Bool.not_false] at c0
    refine .seq ?_
    refine .reg (X := Nat) (fun ζ => .of [(10, .one (.ptr [10] (g11) 0)), (11, .one (.d (.v (.int .i64 (alarmOf p ((d.arrays.getD v.toNat default).size))))))] [([10], (g11, ζ, .box [.d (.v (.bool (false))), .d (.v (.slice none 0 0)), .d (.v (.slice none 0 0))]))]) [⟨[], some 30, [], []⟩, ⟨[14], some 31, [], []⟩, ⟨[10, 30], none, [[10]], [[10]]⟩, ⟨[31], some 11, [], []⟩] (fun k15 => ?_) ?_
    · skip
      refine .build (.no rfl) rfl z30 rfl p30 rfl rfl rfl rfl ?_
      refine .move (.no rfl) rfl rfl rfl rfl ?_
      refine .store (.no rfl) rfl t30 rfl rfl rfl rfl rfl rfl rfl rfl rfl ?_
      refine .assign (.no rfl) rfl rfl rfl rfl ?_
      exact .fin (k15 + 1 + 1) (.of (.cons rfl (.cons rfl .nil)) (.cons rfl .nil))
    intro g16
    refine .ret ?_
    have e17 : (false) = ((Env.put d e v p a).live) := by first | (rw [Env.put_nil c0]) | (rw [Env.put_one c0 c1]) | (rw [Env.put_more c0 c1]) | rfl
    have hc18 := eq1 (fun z1 => some (g11, g16, O.box [.d (.v (.bool (z1))), .d (.v (.slice none 0 0)), .d (.v (.slice none 0 0))])) e17
    have e19 : (alarmOf p ((d.arrays.getD v.toNat default).size)) = (Env.putAl d v p) := by first | (rw [Env.put_nil c0]) | (rw [Env.put_one c0 c1]) | (rw [Env.put_more c0 c1]) | rfl
    have hc20 := eq1 (fun z1 => SV.one (.d (.v (.int .i64 (z1))))) e19
    show _ ∧ _
    exact ⟨.inr rfl, .done ⟨_, [], [], _, .cell (cells := [.d (.v (.bool ((Env.put d e v p a).live))), .d (.v (.slice none 0 0)), .d (.v (.slice none 0 0))]) rfl hc18 t30 rfl rfl (.one (c := .d (.v (.int .i64 (Env.putAl d v p)))) (hc20) .nil), .cons (Reads.d _).gives (.cons (Gives.nil' (by rw [Env.put_nil c0]; rfl)) (.cons (Gives.nil' (by rw [Env.put_nil c0]; rfl)) (.cons (Reads.d _).gives .nil))), nodupB_ok rfl, by simp, (by simp)⟩⟩
  · have c0 := c0
    try simp only [Bool.or_eq_true, Bool.or_eq_false_iff, Bool.and_eq_true, Bool.and_eq_false_iff, decide_eq_true_eq, decide_eq_false_iff_not, Bool.not_eq_true', Bool.not_eq_false', bne_iff_ne, beq_iff_eq, bne_eq_false_iff_eq, beq_eq_false_iff_ne, ne_eq, Bool.not_eq_eq_eq_not, Bool.not_true, Bool.not_false] at c0
    refine .skip ?_
    refine .seq ?_
    refine .reg (X := Nat × Nat × Nat) (fun ζ => .of [(2, .one (.d (.v (.int .i64 (v))))), (9, .one (.ptr [9] (g10) 0)), (10, .one (.ptr [10] (g11) 0)), (12, .one (.d (.v (.int .i64 ((d.arrays.getD v.toNat default).size))))), (14, .one (.d (.v (.int .i64 (alarmOf p ((d.arrays.getD v.toNat default).size)))))), (15, .one (.ptr [15] (ζ.1) 0))] [([9], (g10, g10, .box [.d (.v (.int .i64 (a.lo))), .d (.v (.int .i64 (a.hi)))])), ([10], (g11, g11, .box [.d (.v (.bool (false))), .d (.v (.slice none 0 0)), .d (.v (.slice none 0 0))])), ([15], (ζ.1, ζ.2.1, .box [.d (.v (.bool (e.live))), .ref [33, 1] (ζ.2.2), .ref [33, 2] (ζ.2.2)])), ([33, 1], (ζ.2.2, ζ.2.2, .row 39 2 (List.map Iv.c (e.ints)))), ([33, 2], (ζ.2.2, ζ.2.2, .row 39 2 (List.map Iv.c (e.arrs))))]) [⟨[6], some 32, [[6]], []⟩, ⟨[32], some 33, [], [[33, 1], [33, 2]]⟩, ⟨[], some 15, [], [[15]]⟩, ⟨[15, 33], none, [[15]], [[15]]⟩] (fun k21 => ?_) ?_
    · skip
      refine .load (.no rfl) rfl t30 rfl rfl (.ptr _ _ _ _ _ rfl) rfl rfl rfl rfl ?_
      refine .call (.no rfl) rfl [] [] (c_l6Copy e (by omega)) rfl rfl rfl rfl rfl (.cons (Reads.d _).gives (.cons (Reads.d _).gives (.cons (Reads.d _).gives .nil))) rfl rfl (fun h => absurd rfl h) (.own [33, 0] (.own [33, 1] (.own [33, 2] .nil))) (.nil) rfl rfl rfl (by simp) rfl rfl rfl ?_
      refine .alloc (.no rfl) rfl z30 rfl rfl rfl ?_
      refine .store (.no rfl) rfl t30 rfl rfl rfl rfl rfl rfl rfl rfl rfl ?_
      exact .fin (k21 + 1 + 1, k21 + 1 + 1 + 1, k21 + 1) (.of (.cons rfl (.cons rfl (.cons rfl (.cons rfl (.cons rfl (.cons rfl .nil)))))) (.cons rfl (.cons rfl (.cons rfl (.cons rfl (.cons rfl .nil))))))
    rintro ⟨g22, g23, g24⟩
    refine .seq ?_
    refine .seq ?_
    refine .reg (X := Unit) (fun ζ => .of [(2, .one (.d (.v (.int .i64 (v))))), (9, .one (.ptr [9] (g10) 0)), (10, .one (.ptr [10] (g11) 0)), (14, .one (.d (.v (.int .i64 (alarmOf p ((d.arrays.getD v.toNat default).size)))))), (15, .one (.ptr [15] (g22) 0)), (35, .one (.d (.v (.bool (((d.arrays.getD v.toNat default).size) == 1)))))] [([9], (g10, g10, .box [.d (.v (.int .i64 (a.lo))), .d (.v (.int .i64 (a.hi)))])), ([10], (g11, g11, .box [.d (.v (.bool (false))), .d (.v (.slice none 0 0)), .d (.v (.slice none 0 0))])), ([15], (g22, g23, .box [.d (.v (.bool (e.live))), .ref [33, 1] (g24), .ref [33, 2] (g24)])), ([33, 1], (g24, g24, .row 39 2 (List.map Iv.c (e.ints)))), ([33, 2], (g24, g24, .row 39 2 (List.map Iv.c (e.arrs))))]) [⟨[12], some 34, [], []⟩, ⟨[34], some 35, [], []⟩] (fun k25 => ?_) ?_
    · skip
      refine .move (.no rfl) rfl rfl rfl rfl ?_
      refine .bin (.no rfl) rfl rfl rfl rfl rfl rfl ?_
      exact .fin () (.of (.cons rfl (.cons rfl (.cons rfl (.cons rfl (.cons rfl (.cons rfl .nil)))))) (.cons rfl (.cons rfl (.cons rfl (.cons rfl (.cons rfl .nil))))))
    intro _
    refine .cond (t := ((d.arrays.getD v.toNat default).size) == 1) rfl (fun c1 => ?_) (fun c1 => ?_)
    · have c1 := (by simpa using c1 : ((d.arrays.getD v.toNat default).size) = 1)
      refine .reg (X := Nat) (fun ζ => .of [(10, .one (.ptr [10] (g11) 0)), (14, .one (.d (.v (.int .i64 (alarmOf p ((d.arrays.getD v.toNat default).size)))))), (15, .one (.ptr [15] (g22) 0))] [([10], (g11, g11, .box [.d (.v (.bool (false))), .d (.v (.slice none 0 0)), .d (.v (.slice none 0 0))])), ([15], (g22, g23, .box [.d (.v (.bool (e.live))), .ref [33, 1] (g24), .ref [33, 2] (g24)])), ([33, 1], (g24, g24, .row 39 2 (List.map Iv.c (e.ints)))), ([33, 2], (g24, ζ, .row 39 2 (List.map Iv.c (e.arrs.set v.toNat a))))]) [⟨[15], some 36, [], []⟩, ⟨[36], some 37, [[15]], []⟩, ⟨[2], some 38, [], []⟩, ⟨[9], some 39, [[9]], []⟩, ⟨[37, 38], some 40, [[33, 2]], []⟩, ⟨[40, 39], none, [[33, 2]], [[33, 2]]⟩] (fun k26 => ?_) ?_
      · skip
        refine .fieldAddrP (.no rfl) rfl t30 rfl rfl t28 rfl rfl rfl rfl ?_
        refine .load (.no rfl) rfl t28 rfl rfl (.ptr _ _ _ _ _ rfl) rfl rfl rfl rfl ?_
        refine .move (.no rfl) rfl rfl rfl rfl ?_
        refine .load (.no rfl) rfl t39 rfl rfl (.ptr _ _ _ _ _ rfl) rfl rfl rfl rfl ?_
        refine .indexAddr (.no rfl) rfl (v.toNat) t28 rfl t39 rfl rfl rfl (.ref _ _ _ _ _ rfl) rfl rfl (by omega) (map_get (by omega)) rfl rfl ?_
        refine .storeE (.no rfl) rfl (els' := List.map Iv.c (e.arrs.set v.toNat a)) t39 rfl rfl rfl rfl (map_get (by omega)) rfl rfl (.cons _ _ _ _ _ _ (.d _) (.cons _ _ _ _ _ _ (.d _) .nil)) rfl (Nat.le_of_ble_eq_true rfl) (set_map _ _ _ a _ rfl) rfl rfl ?_
        exact .fin (k26 + 1 + 1 + 1 + 1 + 1) (.of (.cons rfl (.cons rfl (.cons rfl .nil))) (.cons rfl (.cons rfl (.cons rfl (.cons rfl .nil)))))
      intro g27
      refine .seq ?_
      refine .reg (X := Nat) (fun ζ => .of [(10, .one (.ptr [10] (g11) 0)), (11, .one (.d (.v (.int .i64 (alarmOf p ((d.arrays.getD v.toNat default).size))))))] [([10], (g11, ζ, .box [.d (.v (.bool (e.live))), .ref [33, 1] (g24), .ref [33, 2] (g24)])), ([33, 1], (g24, g24, .row 39 2 (List.map Iv.c (e.ints)))), ([33, 2], (g24, g27, .row 39 2 (List.map Iv.c (e.arrs.set v.toNat a))))]) [⟨[15], some 52, [[15]], []⟩, ⟨[14], some 53, [], []⟩, ⟨[10, 52], none, [[10]], [[10]]⟩, ⟨[53], some 11, [], []⟩] (fun k28 => ?_) ?_
      · skip
        refine .load (.no rfl) rfl t30 rfl rfl (.ptr _ _ _ _ _ rfl) rfl rfl rfl rfl ?_
        refine .move (.no rfl) rfl rfl rfl rfl ?_
        refine .store (.no rfl) rfl t30 rfl rfl rfl rfl rfl rfl rfl rfl rfl ?_
        refine .assign (.no rfl) rfl rfl rfl rfl ?_
        exact .fin (k28 + 1 + 1) (.of (.cons rfl (.cons rfl .nil)) (.cons rfl (.cons rfl (.cons rfl .nil))))
      intro g29
      refine .ret ?_
      have e30 : (e.live) = ((Env.put d e v p a).live) := by first | (rw [Env.put_nil c0]) | (rw [Env.put_one c0 c1]) | (rw [Env.put_more c0 c1]) | rfl
      have e31 : (e.ints) = ((Env.put d e v p a).ints) := by first | (rw [Env.put_nil c0]) | (rw [Env.put_one c0 c1]) | (rw [Env.put_more c0 c1]) | rfl
      have e32 : (e.arrs.set v.toNat a) = ((Env.put d e v p a).arrs) := by first | (rw [Env.put_nil c0]) | (rw [Env.put_one c0 c1]) | (rw [Env.put_more c0 c1]) | rfl
      have hc33 := eq1 (fun z1 => some (g11, g29, O.box [.d (.v (.bool (z1))), .ref [33, 1] (g24), .ref [33, 2] (g24)])) e30
      have e34 : (alarmOf p ((d.arrays.getD v.toNat default).size)) = (Env.putAl d v p) := by first | (rw [Env.put_nil c0]) | (rw [Env.put_one c0 c1]) | (rw [Env.put_more c0 c1]) | rfl
      have hc35 := eq1 (fun z1 => SV.one (.d (.v (.int .i64 (z1))))) e34
      show _ ∧ _
      exact ⟨.inr rfl, .done ⟨_, [], [([33, 1], (g24, g24, .row 39 2 (List.map Iv.c ((Env.put d e v p a).ints)))), ([33, 2], (g24, g27, .row 39 2 (List.map Iv.c ((Env.put d e v p a).arrs))))], _, .cell (cells := [.d (.v (.bool ((Env.put d e v p a).live))), .ref [33, 1] (g24), .ref [33, 2] (g24)]) rfl hc33 t30 rfl rfl (.one (c := .d (.v (.int .i64 (Env.putAl d v p)))) (hc35) .nil), .cons (Reads.d _).gives (.cons (.ref (.head _)) (.cons (.ref (.tail _ (.head _))) (.cons (Reads.d _).gives .nil))), nodupB_ok rfl, by simp, (AllH.get (.cons (rowE (congrArg (List.map Iv.c) e31)) (.cons (rowE (congrArg (List.map Iv.c) e32)) .nil)))⟩⟩
    · have c1 := (by simpa using c1 : ¬ (((d.arrays.getD v.toNat default).size) = 1))
      refine .regD (X := Nat) (by kernel_rfl) (fun ζ => .of [(10, .one (.ptr [10] (g11) 0)), (14, .one (.d (.v (.int .i64 (alarmOf p ((d.arrays.getD v.toNat default).size)))))), (15, .one (.ptr [15] (g22) 0))] [([10], (g11, g11, .box [.d (.v (.bool (false))), .d (.v (.slice none 0 0)), .d (.v (.slice none 0 0))])), ([15], (g22, g23, .box [.d (.v (.bool (e.live))), .ref [33, 1] (g24), .ref [33, 2] (g24)])), ([33, 1], (g24, g24, .row 39 2 (List.map Iv.c (e.ints)))), ([33, 2], (g24, ζ, .row 39 2 (List.map Iv.c (e.arrs.set v.toNat (Iv.join (e.arrs.getD v.toNat default) a)))))]) [⟨[15], some 41, [], []⟩, ⟨[41], some 42, [[15]], []⟩, ⟨[2], some 43, [], []⟩, ⟨[15], some 44, [], []⟩, ⟨[44], some 45, [[15]], []⟩, ⟨[2], some 46, [], []⟩, ⟨[45, 46], some 47, [[33, 2]], []⟩, ⟨[47], some 48, [[33, 2]], []⟩, ⟨[9], some 49, [[9]], []⟩, ⟨[48, 49], some 50, [], []⟩, ⟨[42, 43], some 51, [[33, 2]], []⟩, ⟨[51, 50], none, [[33, 2]], [[33, 2]]⟩] (by kernel_rfl) (fun k36 => ?_) ?_
      · skip
        refine .fieldAddrP (.no rfl) rfl t30 rfl rfl t28 rfl rfl rfl rfl ?_
        refine .load (.no rfl) rfl t28 rfl rfl (.ptr _ _ _ _ _ rfl) rfl rfl rfl rfl ?_
        refine .move (.no rfl) rfl rfl rfl rfl ?_
        refine .fieldAddrP (.no rfl) rfl t30 rfl rfl t28 rfl rfl rfl rfl ?_
        refine .load (.no rfl) rfl t28 rfl rfl (.ptr _ _ _ _ _ rfl) rfl rfl rfl rfl ?_
        refine .move (.no rfl) rfl rfl rfl rfl ?_
        refine .indexAddr (.no rfl) rfl (v.toNat) t28 rfl t39 rfl rfl rfl (.ref _ _ _ _ _ rfl) rfl rfl (by omega) (map_get (by omega)) rfl rfl ?_
        refine .load (.no rfl) rfl t39 rfl rfl (.eptr _ _ _ _ _ _ _ _ _ rfl (map_get (by omega))) rfl rfl rfl rfl ?_
        refine .load (.no rfl) rfl t39 rfl rfl (.ptr _ _ _ _ _ rfl) rfl rfl rfl rfl ?_
        refine .call (.no rfl) rfl [] [] (c_l2Join (e.arrs.getD v.toNat default) a) rfl rfl rfl rfl rfl (.cons (Reads.d _).gives (.cons (Reads.d _).gives (.cons (Reads.d _).gives (.cons (Reads.d _).gives .nil)))) rfl rfl (fun h => absurd rfl h) (.own [50, 0] (.own [50, 1] .nil)) (.nil) rfl rfl rfl (by simp) rfl rfl rfl ?_
        refine .indexAddr (.no rfl) rfl (v.toNat) t28 rfl t39 rfl rfl rfl (.ref _ _ _ _ _ rfl) rfl rfl (by omega) (map_get (by omega)) rfl rfl ?_
        refine .storeE (.no rfl) rfl (els' := List.map Iv.c (e.arrs.set v.toNat (Iv.join (e.arrs.getD v.toNat default) a))) t39 rfl rfl rfl rfl (map_get (by omega)) rfl rfl (.cons _ _ _ _ _ _ (.d _) (.cons _ _ _ _ _ _ (.d _) .nil)) rfl (Nat.le_of_ble_eq_true rfl) (set_map _ _ _ (Iv.join (e.arrs.getD v.toNat default) a) _ rfl) rfl rfl ?_
        exact .fin (k36 + 1 + 1 + 1 + 1 + 1 + 1 + 1 + 1 + 1 + 1 + 1) (.of (.cons rfl (.cons rfl (.cons rfl .nil))) (.cons rfl (.cons rfl (.cons rfl (.cons rfl .nil)))))
      intro g37
      refine .seq ?_
      refine .reg (X := Nat) (fun ζ => .of [(10, .one (.ptr [10] (g11) 0)), (11, .one (.d (.v (.int .i64 (alarmOf p ((d.arrays.getD v.toNat default).size))))))] [([10], (g11, ζ, .box [.d (.v (.bool (e.live))), .ref [33, 1] (g24), .ref [33, 2] (g24)])), ([33, 1], (g24, g24, .row 39 2 (List.map Iv.c (e.ints)))), ([33, 2], (g24, g37, .row 39 2 (List.map Iv.c (e.arrs.set v.toNat (Iv.join (e.arrs.getD v.toNat default) a)))))]) [⟨[15], some 52, [[15]], []⟩, ⟨[14], some 53, [], []⟩, ⟨[10, 52], none, [[10]], [[10]]⟩, ⟨[53], some 11, [], []⟩] (fun k38 => ?_) ?_
      · skip
        refine .load (.no rfl) rfl t30 rfl rfl (.ptr _ _ _ _ _ rfl) rfl rfl rfl rfl ?_
        refine .move (.no rfl) rfl rfl rfl rfl ?_
        refine .store (.no rfl) rfl t30 rfl rfl rfl rfl rfl rfl rfl rfl rfl ?_
        refine .assign (.no rfl) rfl rfl rfl rfl ?_
        exact .fin (k38 + 1 + 1) (.of (.cons rfl (.cons rfl .nil)) (.cons rfl (.cons rfl (.cons rfl .nil))))
      intro g39
      refine .ret ?_
      have e40 : (e.live) = ((Env.put d e v p a).live) := by first | (rw [Env.put_nil c0]) | (rw [Env.put_one c0 c1]) | (rw [Env.put_more c0 c1]) | rfl
      have e41 : (e.ints) = ((Env.put d e v p a).ints) := by first | (rw [Env.put_nil c0]) | (rw [Env.put_one c0 c1]) | (rw [Env.put_more c0 c1]) | rfl
      have e42 : (e.arrs.set v.toNat (Iv.join (e.arrs.getD v.toNat default) a)) = ((Env.put d e v p a).arrs) := by first | (rw [Env.put_nil c0]) | (rw [Env.put_one c0 c1]) | (rw [Env.put_more c0 c1]) | rfl
      have hc43 := eq1 (fun z1 => some (g11, g39, O.box [.d (.v (.bool (z1))), .ref [33, 1] (g24), .ref [33, 2] (g24)])) e40
      have e44 : (alarmOf p ((d.arrays.getD v.toNat default).size)) = (Env.putAl d v p) := by first | (rw [Env.put_nil c0]) | (rw [Env.put_one c0 c1]) | (rw [Env.put_more c0 c1]) | rfl
      have hc45 := eq1 (fun z1 => SV.one (.d (.v (.int .i64 (z1))))) e44
      show _ ∧ _
      exact ⟨.inr rfl, .done ⟨_, [], [([33, 1], (g24, g24, .row 39 2 (List.map Iv.c ((Env.put d e v p a).ints)))), ([33, 2], (g24, g37, .row 39 2 (List.map Iv.c ((Env.put d e v p a).arrs))))], _, .cell (cells := [.d (.v (.bool ((Env.put d e v p a).live))), .ref [33, 1] (g24), .ref [33, 2] (g24)]) rfl hc43 t30 rfl rfl (.one (c := .d (.v (.int .i64 (Env.putAl d v p)))) (hc45) .nil), .cons (Reads.d _).gives (.cons (.ref (.head _)) (.cons (.ref (.tail _ (.head _))) (.cons (Reads.d _).gives .nil))), nodupB_ok rfl, by simp, (AllH.get (.cons (rowE (congrArg (List.map Iv.c) e41)) (.cons (rowE (congrArg (List.map Iv.c) e42)) .nil)))⟩⟩
theorem c_sEnvPut (d : Decl) (e : Env) (v : Int) (p : Iv) (a : Iv) (hs : ∀ x ∈ Decl.names d, x.size ≤ 9223372036854775807) (hd : d.vars.length ≤ 1048576 ∧ d.flags.length ≤ 1048576 ∧ d.arrays.length ≤ 1048576) (hb : e.ints.length ≤ 1048576 ∧ e.arrs.length ≤ 1048576) : Trip Tryd.prog 17 [(true, 3), (true, 3), (false, 1), (true, 2), (true, 2)] (Decl.c27 d ++ Env.c30 e ++ [.v (.int .i64 (v))] ++ Iv.c p ++ Iv.c a) [(true, 3), (false, 1)] [.v (.bool ((Env.putIn d e v p a).live)), .sl true 39 2 (List.map Iv.c ((Env.putIn d e v p a).ints)), .sl true 39 2 (List.map Iv.c ((Env.putIn d e v p a).arrs)), .v (.int .i64 (Env.putInAl d e v p a))] [] := by
  refine Trip.of Tryd.func17 (by decide) (c := _) rfl rfl (shB_ok rfl) (Nat.le_of_ble_eq_true rfl) rfl (AftOk.nil _) ?_
  refine .satA (t := 0) (i := 0) rfl rfl (fun hs1 => ?_)
  have hs1l : d.vars.length ≤ 9223372036854775807 := hs1.maplen
  refine .satA (t := 0) (i := 1) rfl rfl (fun hs2 => ?_)
  have hs2l : d.flags.length ≤ 9223372036854775807 := hs2.maplen
  refine .satA (t := 0) (i := 2) rfl rfl (fun hs3 => ?_)
  have hs3l : d.arrays.length ≤ 9223372036854775807 := hs3.maplen
  refine .satA (t := 1) (i := 1) rfl rfl (fun hs4 => ?_)
  have hs4l : e.ints.length ≤ 9223372036854775807 := hs4.maplen
  refine .satA (t := 1) (i := 2) rfl rfl (fun hs5 => ?_)
  have hs5l : e.arrs.length ≤ 9223372036854775807 := hs5.maplen
  refine .seq ?_
  refine .reg (X := Nat × Nat × Nat × Nat × Nat) (fun ζ => .of [(2, .one (.d (.v (.int .i64 (v))))), (5, .one (.ptr [5] (ζ.1) 0)), (6, .one (.ptr [6] (ζ.2.1) 0)), (8, .one (.ptr [8] (ζ.2.2.1) 0)), (9, .one (.ptr [9] (ζ.2.2.2.1) 0)), (10, .one (.ptr [10] (ζ.2.2.2.2) 0))] [([5], (ζ.1, ζ.1, .box [.d (.sl false 9 1 (List.map strc (d.vars))), .d (.sl false 9 1 (List.map strc (d.flags))), .d (.sl false 52 2 (List.map Arr.c (d.arrays)))])), ([6], (ζ.2.1, ζ.2.1, .box [.d (.v (.bool (e.live))), .d (.sl false 39 2 (List.map Iv.c (e.ints))), .d (.sl false 39 2 (List.map Iv.c (e.arrs)))])), ([8], (ζ.2.2.1, ζ.2.2.1, .box [.d (.v (.int .i64 (p.lo))), .d (.v (.int .i64 (p.hi)))])), ([9], (ζ.2.2.2.1, ζ.2.2.2.1, .box [.d (.v (.int .i64 (a.lo))), .d (.v (.int .i64 (a.hi)))])), ([10], (ζ.2.2.2.2, ζ.2.2.2.2, .box [.d (.v (.bool (false))), .d (.v (.slice none 0 0)), .d (.v (.slice none 0 0))]))]) [⟨[0], some 5, [], [[5]]⟩, ⟨[1], some 6, [], [[6]]⟩, ⟨[3], some 8, [], [[8]]⟩, ⟨[4], some 9, [], [[9]]⟩, ⟨[], some 10, [], [[10]]⟩, ⟨[], some 11, [], []⟩] (fun k6 => ?_) ?_
  · skip
    refine .box (.no rfl) rfl rfl rfl rfl rfl ?_
    refine .box (.no rfl) rfl rfl rfl rfl rfl ?_
    refine .box (.no rfl) rfl rfl rfl rfl rfl ?_
    refine .box (.no rfl) rfl rfl rfl rfl rfl ?_
    refine .alloc (.no rfl) rfl z30 rfl rfl rfl ?_
    refine .assign (.no rfl) rfl rfl rfl rfl ?_
    exact .fin (k6, k6 + 1, k6 + 1 + 1, k6 + 1 + 1 + 1, k6 + 1 + 1 + 1 + 1) (.of (.cons rfl (.cons rfl (.cons rfl (.cons rfl (.cons rfl (.cons rfl .nil)))))) (.cons rfl (.cons rfl (.cons rfl (.cons rfl (.cons rfl .nil))))))
  rintro ⟨g7, g8, g9, g10, g11⟩
  refine .seq ?_
  refine .seq ?_
  refine .reg (X := Unit) (fun ζ => .of [(2, .one (.d (.v (.int .i64 (v))))), (5, .one (.ptr [5] (g7) 0)), (6, .one (.ptr [6] (g8) 0)), (8, .one (.ptr [8] (g9) 0)), (9, .one (.ptr [9] (g10) 0)), (10, .one (.ptr [10] (g11) 0)), (39, .one (.d (.v (.bool (((((!(Decl.ok d && Env.okIn d e) || !e.live) || !(inR v 0 (IntKind.wrap .i64 ((d.arrays.length : Int) - 1)))) || !(Iv.ok p)) || !(Iv.ok a)))))))] [([5], (g7, g7, .box [.d (.sl false 9 1 (List.map strc (d.vars))), .d (.sl false 9 1 (List.map strc (d.flags))), .d (.sl false 52 2 (List.map Arr.c (d.arrays)))])), ([6], (g8, g8, .box [.d (.v (.bool (e.live))), .d (.sl false 39 2 (List.map Iv.c (e.ints))), .d (.sl false 39 2 (List.map Iv.c (e.arrs)))])), ([8], (g9, g9, .box [.d (.v (.int .i64 (p.lo))), .d (.v (.int .i64 (p.hi)))])), ([9], (g10, g10, .box [.d (.v (.int .i64 (a.lo))), .d (.v (.int .i64 (a.hi)))])), ([10], (g11, g11, .box [.d (.v (.bool (false))), .d (.v (.slice none 0 0)), .d (.v (.slice none 0 0))]))]) [⟨[5], some 12, [[5]], []⟩, ⟨[6], some 13, [[6]], []⟩, ⟨[12, 13], some 14, [], []⟩, ⟨[14], some 15, [], []⟩, ⟨[15], some 16, [], []⟩, ⟨[16, 6], some 17, [], []⟩, ⟨[16, 17], some 18, [[6]], []⟩, ⟨[16, 18], some 19, [], []⟩, ⟨[16, 19], some 20, [], []⟩, ⟨[20], some 21, [], []⟩, ⟨[21, 2], some 22, [], []⟩, ⟨[21, 5], some 23, [], []⟩, ⟨[21, 23], some 24, [[5]], []⟩, ⟨[21, 24], some 25, [], []⟩, ⟨[21, 25], some 26, [], []⟩, ⟨[21, 22, 26], some 27, [], []⟩, ⟨[21, 27], some 28, [], []⟩, ⟨[21, 28], some 29, [], []⟩, ⟨[29], some 30, [], []⟩, ⟨[30, 8], some 31, [[8]], []⟩, ⟨[30, 31], some 32, [], []⟩, ⟨[30, 32], some 33, [], []⟩, ⟨[30, 33], some 34, [], []⟩, ⟨[34], some 35, [], []⟩, ⟨[35, 9], some 36, [[9]], []⟩, ⟨[35, 36], some 37, [], []⟩, ⟨[35, 37], some 38, [], []⟩, ⟨[35, 38], some 39, [], []⟩] (fun k12 => ?_) ?_
  · skip
    refine .load (.no rfl) rfl t27 rfl rfl (.ptr _ _ _ _ _ rfl) rfl rfl rfl rfl ?_
    refine .load (.no rfl) rfl t30 rfl rfl (.ptr _ _ _ _ _ rfl) rfl rfl rfl rfl ?_
    refine .call (.no rfl) rfl [] [] (c_sEnvOk d e (by first | assumption | omega | exact ⟨(Env.put_place (d := d) (by omega) c0.1.1.1.1.1 c0.1.1.1.1.2 c0.1.1.1.2 c0.1.1.2), c0.2⟩) (by first | assumption | omega | exact ⟨(Env.put_place (d := d) (by omega) c0.1.1.1.1.1 c0.1.1.1.1.2 c0.1.1.1.2 c0.1.1.2), c0.2⟩) (by first | assumption | omega | exact ⟨(Env.put_place (d := d) (by omega) c0.1.1.1.1.1 c0.1.1.1.1.2 c0.1.1.1.2 c0.1.1.2), c0.2⟩)) rfl rfl rfl rfl rfl (.cons (Reads.d _).gives (.cons (Reads.d _).gives (.cons (Reads.d _).gives (.cons (Reads.d _).gives (.cons (Reads.d _).gives (.cons (Reads.d _).gives .nil)))))) rfl rfl (fun h => absurd rfl h) (.own [14, 0] .nil) (.nil) rfl rfl rfl (by simp) rfl rfl rfl ?_
    refine .un (.no rfl) rfl rfl rfl rfl rfl ?_
    refine .moveB (.no rfl) rfl rfl rfl rfl fun b13 g1_4 => ?_
    cases b13
    · skip
      refine .fieldAddrP (.on rfl rfl rfl rfl rfl) rfl t30 rfl rfl t4 rfl rfl rfl rfl ?_
      refine .load (.on rfl rfl rfl rfl rfl) rfl t4 rfl rfl (.ptr _ _ _ _ _ rfl) rfl rfl rfl rfl ?_
      refine .un (.on rfl rfl rfl rfl rfl) rfl rfl rfl rfl rfl ?_
      refine .pick (.no rfl) rfl rfl rfl rfl rfl ?_
      refine .moveB (.no rfl) rfl rfl rfl rfl fun b14 g1_9 => ?_
      cases b14
      · skip
        refine .move (.on rfl rfl rfl rfl rfl) rfl rfl rfl rfl ?_
        refine .fieldAddrP (.on rfl rfl rfl rfl rfl) rfl t27 rfl rfl t25 rfl rfl rfl rfl ?_
        refine .load (.on rfl rfl rfl rfl rfl) rfl t25 rfl rfl (.ptr _ _ _ _ _ rfl) rfl rfl rfl rfl ?_
        refine .len (.on rfl rfl rfl rfl rfl) rfl (z := (d.arrays.length : Int)) t25 rfl rfl rfl (.d _ _) (map_len _ _) rfl ?_
        refine .bin (.on rfl rfl rfl rfl rfl) rfl rfl rfl rfl rfl rfl ?_
        refine .call (.on rfl rfl rfl rfl rfl) rfl [] [] (c_l1In v 0 (IntKind.wrap .i64 ((d.arrays.length : Int) - 1))) rfl rfl rfl rfl rfl (.cons (Reads.d _).gives (.cons (Reads.d _).gives (.cons (Reads.d _).gives .nil))) rfl rfl (fun h => absurd rfl h) (.own [27, 0] .nil) (.nil) rfl rfl rfl (by simp) rfl rfl rfl ?_
        refine .un (.on rfl rfl rfl rfl rfl) rfl rfl rfl rfl rfl ?_
        refine .pick (.no rfl) rfl rfl rfl rfl rfl ?_
        refine .moveB (.no rfl) rfl rfl rfl rfl fun b15 g1_18 => ?_
        cases b15
        · skip
          refine .load (.on rfl rfl rfl rfl rfl) rfl t39 rfl rfl (.ptr _ _ _ _ _ rfl) rfl rfl rfl rfl ?_
          refine .call (.on rfl rfl rfl rfl rfl) rfl [] [] (c_sIvOk p) rfl rfl rfl rfl rfl (.cons (Reads.d _).gives (.cons (Reads.d _).gives .nil)) rfl rfl (fun h => absurd rfl h) (.own [32, 0] .nil) (.nil) rfl rfl rfl (by simp) rfl rfl rfl ?_
          refine .un (.on rfl rfl rfl rfl rfl) rfl rfl rfl rfl rfl ?_
          refine .pick (.no rfl) rfl rfl rfl rfl rfl ?_
          refine .moveB (.no rfl) rfl rfl rfl rfl fun b16 g1_23 => ?_
          cases b16
          · skip
            refine .load (.on rfl rfl rfl rfl rfl) rfl t39 rfl rfl (.ptr _ _ _ _ _ rfl) rfl rfl rfl rfl ?_
            refine .call (.on rfl rfl rfl rfl rfl) rfl [] [] (c_sIvOk a) rfl rfl rfl rfl rfl (.cons (Reads.d _).gives (.cons (Reads.d _).gives .nil)) rfl rfl (fun h => absurd rfl h) (.own [37, 0] .nil) (.nil) rfl rfl rfl (by simp) rfl rfl rfl ?_
            refine .un (.on rfl rfl rfl rfl rfl) rfl rfl rfl rfl rfl ?_
            refine .pick (.no rfl) rfl rfl rfl rfl rfl ?_
            exact .fin () (.of (.cons rfl (.cons rfl (.cons rfl (.cons rfl (.cons rfl (.cons rfl (.cons (svB (show (!(Iv.ok a)) = (((((!(Decl.ok d && Env.okIn d e) || !e.live) || !(inR v 0 (IntKind.wrap .i64 ((d.arrays.length : Int) - 1)))) || !(Iv.ok p)) || !(Iv.ok a))) by first | (simp only [g1_4, g1_9, g1_18, g1_23, Bool.true_or, Bool.false_or, Bool.true_and, Bool.false_and, Bool.not_true, Bool.not_false]; done) | simp [g1_4, g1_9, g1_18, g1_23])) .nil))))))) (.cons rfl (.cons rfl (.cons rfl (.cons rfl (.cons rfl .nil))))))
          · skip
            refine .off rfl rfl rfl rfl rfl rfl rfl ?_
            refine .off rfl rfl rfl rfl rfl rfl rfl ?_
            refine .off rfl rfl rfl rfl rfl rfl rfl ?_
            refine .pick (.no rfl) rfl rfl rfl rfl rfl ?_
            exact .fin () (.of (.cons rfl (.cons rfl (.cons rfl (.cons rfl (.cons rfl (.cons rfl (.cons (svB (show (true) = (((((!(Decl.ok d && Env.okIn d e) || !e.live) || !(inR v 0 (IntKind.wrap .i64 ((d.arrays.length : Int) - 1)))) || !(Iv.ok p)) || !(Iv.ok a))) by first | (simp only [g1_4, g1_9, g1_18, g1_23, Bool.true_or, Bool.false_or, Bool.true_and, Bool.false_and, Bool.not_true, Bool.not_false]; done) | simp [g1_4, g1_9, g1_18, g1_23])) .nil))))))) (.cons rfl (.cons rfl (.cons rfl (.cons rfl (.cons rfl .nil))))))
        · skip
          refine .off rfl rfl rfl rfl rfl rfl rfl ?_
          refine .off rfl rfl rfl rfl rfl rfl rfl ?_
          refine .off rfl rfl rfl rfl rfl rfl rfl ?_
          refine .pick (.no rfl) rfl rfl rfl rfl rfl ?_
          refine .move (.no rfl) rfl rfl rfl rfl ?_
          refine .off rfl rfl rfl rfl rfl rfl rfl ?_
          refine .off rfl rfl rfl rfl rfl rfl rfl ?_
          refine .off rfl rfl rfl rfl rfl rfl rfl ?_
          refine .pick (.no rfl) rfl rfl rfl rfl rfl ?_
          exact .fin () (.of (.cons rfl (.cons rfl (.cons rfl (.cons rfl (.cons rfl (.cons rfl (.cons (svB (show (true) = (((((!(Decl.ok d && Env.okIn d e) || !e.live) || !(inR v 0 (IntKind.wrap .i64 ((d.arrays.length : Int) - 1)))) || !(Iv.ok p)) || !(Iv.ok a))) by first | (simp only [g1_4, g1_9, g1_18, Bool.true_or, Bool.false_or, Bool.true_and, Bool.false_and, Bool.not_true, Bool.not_false]; done) | simp [g1_4, g1_9, g1_18])) .nil))))))) (.cons rfl (.cons rfl (.cons rfl (.cons rfl (.cons rfl .nil))))))
      · skip
        refine .off rfl rfl rfl rfl rfl rfl rfl ?_
        refine .off rfl rfl rfl rfl rfl rfl rfl ?_
        refine .off rfl rfl rfl rfl rfl rfl rfl ?_
        refine .off rfl rfl rfl rfl rfl rfl rfl ?_
        refine .off rfl rfl rfl rfl rfl rfl rfl ?_
        refine .off rfl rfl rfl rfl rfl rfl rfl ?_
        refine .off rfl rfl rfl rfl rfl rfl rfl ?_
        refine .pick (.no rfl) rfl rfl rfl rfl rfl ?_
        refine .move (.no rfl) rfl rfl rfl rfl ?_
        refine .off rfl rfl rfl rfl rfl rfl rfl ?_
        refine .off rfl rfl rfl rfl rfl rfl rfl ?_
        refine .off rfl rfl rfl rfl rfl rfl rfl ?_
        refine .pick (.no rfl) rfl rfl rfl rfl rfl ?_
        refine .move (.no rfl) rfl rfl rfl rfl ?_
        refine .off rfl rfl rfl rfl rfl rfl rfl ?_
        refine .off rfl rfl rfl rfl rfl rfl rfl ?_
        refine .off rfl rfl rfl rfl rfl rfl rfl ?_
        refine .pick (.no rfl) rfl rfl rfl rfl rfl ?_
        exact .fin () (.of (.cons rfl (.cons rfl (.cons rfl (.cons rfl (.cons rfl (.cons rfl (.cons (svB (show (true) = (((((!(Decl.ok d && Env.okIn d e) || !e.live) || !(inR v 0 (IntKind.wrap .i64 ((d.arrays.length : Int) - 1)))) || !(Iv.ok p)) || !(Iv.ok a))) by first | (simp only [g1_4, g1_9, Bool.true_or, Bool.false_or, Bool.true_and, Bool.false_and, Bool.not_true, Bool.not_false]; done) | simp [g1_4, g1_9])) .nil))))))) (.cons rfl (.cons rfl (.cons rfl (.cons rfl (.cons rfl .nil))))))
    · skip
      refine .off rfl rfl rfl rfl rfl rfl rfl ?_
      refine .off rfl rfl rfl rfl rfl rfl rfl ?_
      refine .off rfl rfl rfl rfl rfl rfl rfl ?_
      refine .pick (.no rfl) rfl rfl rfl rfl rfl ?_
      refine .move (.no rfl) rfl rfl rfl rfl ?_
      refine .off rfl rfl rfl rfl rfl rfl rfl ?_
      refine .off rfl rfl rfl rfl rfl rfl rfl ?_
      refine .off rfl rfl rfl rfl rfl rfl rfl ?_
      refine .off rfl rfl rfl rfl rfl rfl rfl ?_
      refine .off rfl rfl rfl rfl rfl rfl rfl ?_
      refine .off rfl rfl rfl rfl rfl rfl rfl ?_
      refine .off rfl rfl rfl rfl rfl rfl rfl ?_
      refine .pick (.no rfl) rfl rfl rfl rfl rfl ?_
      refine .move (.no rfl) rfl rfl rfl rfl ?_
      refine .off rfl rfl rfl rfl rfl rfl rfl ?_
      refine .off rfl rfl rfl rfl rfl rfl rfl ?_
      refine .off rfl rfl rfl rfl rfl rfl rfl ?_
      refine .pick (.no rfl) rfl rfl rfl rfl rfl ?_
      refine .move (.no rfl) rfl rfl rfl rfl ?_
      refine .off rfl rfl rfl rfl rfl rfl rfl ?_
      refine .off rfl rfl rfl rfl rfl rfl rfl ?_
      refine .off rfl rfl rfl rfl rfl rfl rfl ?_
      refine .pick (.no rfl) rfl rfl rfl rfl rfl ?_
      exact .fin () (.of (.cons rfl (.cons rfl (.cons rfl (.cons rfl (.cons rfl (.cons rfl (.cons (svB (show (true) = (((((!(Decl.ok d && Env.okIn d e) || !e.live) || !(inR v 0 (IntKind.wrap .i64 ((d.arrays.length : Int) - 1)))) || !(Iv.ok p)) || !(Iv.ok a))) by first | (simp only [g1_4, Bool.true_or, Bool.false_or, Bool.true_and, Bool.false_and, Bool.not_true, Bool.not_false]; done) | simp [g1_4])) .nil))))))) (.cons rfl (.cons rfl (.cons rfl (.cons rfl (.cons rfl .nil))))))
  intro _
  refine .cond (t := ((((!(Decl.ok d && Env.okIn d e) || !e.live) || !(inR v 0 (IntKind.wrap .i64 ((d.arrays.length : Int) - 1)))) || !(Iv.ok p)) || !(Iv.ok a))) rfl (fun c0 => ?_) (fun c0 => ?_)
  · have c0 := c0
    try simp only [Bool.or_eq_true, Bool.or_eq_false_iff, Bool.and_eq_true, Bool.and_eq_false_iff, decide_eq_true_eq, decide_eq_false_iff_not, Bool.not_eq_true', Bool.not_eq_false', bne_iff_ne, beq_iff_eq, bne_eq_false_iff_eq, beq_eq_false_iff_ne, ne_eq, Bool.not_eq_eq_eq_not, Bool.not_true, Bool.not_false] at c0
    refine .seq ?_
    refine .reg (X := Nat) (fun ζ => .of [(10, .one (.ptr [10] (g11) 0)), (11, .one (.d (.v (.int .i64 (0)))))] [([10], (g11, ζ, .box [.d (.v (.bool (false))), .d (.v (.slice none 0 0)), .d (.v (.slice none 0 0))]))]) [⟨[], some 40, [], []⟩, ⟨[10, 40], none, [[10]], [[10]]⟩, ⟨[], some 11, [], []⟩] (fun k17 => ?_) ?_
    · skip
      refine .build (.no rfl) rfl z30 rfl p30 rfl rfl rfl rfl ?_
      refine .store (.no rfl) rfl t30 rfl rfl rfl rfl rfl rfl rfl rfl rfl ?_
      refine .assign (.no rfl) rfl rfl rfl rfl ?_
      exact .fin (k17 + 1) (.of (.cons rfl (.cons rfl .nil)) (.cons rfl .nil))
    intro g18
    refine .ret ?_
    have e19 : (false) = ((Env.putIn d e v p a).live) := by first | (unfold Env.putIn; rw [if_pos (Env.putIn_yes c0)]) | (unfold Env.putInAl; rw [if_pos (Env.putIn_yes c0)]) | (unfold Env.putIn; rw [Env.putIn_no c0]; rfl) | (unfold Env.putInAl; rw [Env.putIn_no c0]; rfl)
    have hc20 := eq1 (fun z1 => some (g11, g18, O.box [.d (.v (.bool (z1))), .d (.v (.slice none 0 0)), .d (.v (.slice none 0 0))])) e19
    have e21 : (0) = (Env.putInAl d e v p a) := by first | (unfold Env.putIn; rw [if_pos (Env.putIn_yes c0)]) | (unfold Env.putInAl; rw [if_pos (Env.putIn_yes c0)]) | (unfold Env.putIn; rw [Env.putIn_no c0]; rfl) | (unfold Env.putInAl; rw [Env.putIn_no c0]; rfl)
    have hc22 := eq1 (fun z1 => SV.one (.d (.v (.int .i64 (z1))))) e21
    show _ ∧ _
    exact ⟨.inr rfl, .done ⟨_, [], [], _, .cell (cells := [.d (.v (.bool ((Env.putIn d e v p a).live))), .d (.v (.slice none 0 0)), .d (.v (.slice none 0 0))]) rfl hc20 t30 rfl rfl (.one (c := .d (.v (.int .i64 (Env.putInAl d e v p a)))) (hc22) .nil), .cons (Reads.d _).gives (.cons (Gives.nil' (by unfold Env.putIn; rw [Env.putIn_no c0]; rfl)) (.cons (Gives.nil' (by unfold Env.putIn; rw [Env.putIn_no c0]; rfl)) (.cons (Reads.d _).gives .nil))), nodupB_ok rfl, by simp, (by simp)⟩⟩
  · have c0 := c0
    try simp only [Bool.or_eq_true, Bool.or_eq_false_iff, Bool.and_eq_true, Bool.and_eq_false_iff, decide_eq_true_eq, decide_eq_false_iff_not, Bool.not_eq_true', Bool.not_eq_false', bne_iff_ne, beq_iff_eq, bne_eq_false_iff_eq, beq_eq_false_iff_ne, ne_eq, Bool.not_eq_eq_eq_not, Bool.not_true, Bool.not_false] at c0
    refine .skip ?_
    refine .seq ?_
    refine .reg (X := Nat × Nat) (fun ζ => .of [(10, .one (.ptr [10] (g11) 0)), (11, .one (.d (.v (.int .i64 (Env.putAl d v p)))))] [([10], (g11, ζ.1, .box [.d (.v (.bool ((Env.put d e v p a).live))), .ref [46, 1] (ζ.2), .ref [46, 2] (ζ.2)])), ([46, 1], (ζ.2, ζ.2, .row 39 2 (List.map Iv.c ((Env.put d e v p a).ints)))), ([46, 2], (ζ.2, ζ.2, .row 39 2 (List.map Iv.c ((Env.put d e v p a).arrs))))]) [⟨[5], some 41, [[5]], []⟩, ⟨[6], some 42, [[6]], []⟩, ⟨[2], some 43, [], []⟩, ⟨[8], some 44, [[8]], []⟩, ⟨[9], some 45, [[9]], []⟩, ⟨[41, 42, 43, 44, 45], some 46, [], [[46, 1], [46, 2]]⟩, ⟨[46], some 47, [], []⟩, ⟨[46], some 48, [], []⟩, ⟨[10, 47], none, [[10]], [[10]]⟩, ⟨[48], some 11, [], []⟩] (fun k23 => ?_) ?_
    · skip
      refine .load (.no rfl) rfl t27 rfl rfl (.ptr _ _ _ _ _ rfl) rfl rfl rfl rfl ?_
      refine .load (.no rfl) rfl t30 rfl rfl (.ptr _ _ _ _ _ rfl) rfl rfl rfl rfl ?_
      refine .move (.no rfl) rfl rfl rfl rfl ?_
      refine .load (.no rfl) rfl t39 rfl rfl (.ptr _ _ _ _ _ rfl) rfl rfl rfl rfl ?_
      refine .load (.no rfl) rfl t39 rfl rfl (.ptr _ _ _ _ _ rfl) rfl rfl rfl rfl ?_
      refine .call (.no rfl) rfl [] [] (c_l7Put d e v p a (by first | assumption | omega | exact ⟨(Env.put_place (d := d) (by omega) c0.1.1.1.1.1 c0.1.1.1.1.2 c0.1.1.1.2 c0.1.1.2), c0.2⟩) (by first | assumption | omega | exact ⟨(Env.put_place (d := d) (by omega) c0.1.1.1.1.1 c0.1.1.1.1.2 c0.1.1.1.2 c0.1.1.2), c0.2⟩)) rfl rfl rfl rfl rfl (.cons (Reads.d _).gives (.cons (Reads.d _).gives (.cons (Reads.d _).gives (.cons (Reads.d _).gives (.cons (Reads.d _).gives (.cons (Reads.d _).gives (.cons (Reads.d _).gives (.cons (Reads.d _).gives (.cons (Reads.d _).gives (.cons (Reads.d _).gives (.cons (Reads.d _).gives .nil))))))))))) rfl rfl (fun h => absurd rfl h) (.own [46, 0] (.own [46, 1] (.own [46, 2] (.own [46, 3] .nil)))) (.nil) rfl rfl rfl (by simp) rfl rfl rfl ?_
      refine .extract (.no rfl) rfl rfl rfl rfl rfl ?_
      refine .extract (.no rfl) rfl rfl rfl rfl rfl ?_
      refine .store (.no rfl) rfl t30 rfl rfl rfl rfl rfl rfl rfl rfl rfl ?_
      refine .assign (.no rfl) rfl rfl rfl rfl ?_
      exact .fin (k23 + 1 + 1 + 1 + 1 + 1 + 1 + 1 + 1, k23 + 1 + 1 + 1 + 1 + 1) (.of (.cons rfl (.cons rfl .nil)) (.cons rfl (.cons rfl (.cons rfl .nil))))
    rintro ⟨g24, g25⟩
    refine .ret ?_
    have e26 : ((Env.put d e v p a).live) = ((Env.putIn d e v p a).live) := by first | (unfold Env.putIn; rw [if_pos (Env.putIn_yes c0)]) | (unfold Env.putInAl; rw [if_pos (Env.putIn_yes c0)]) | (unfold Env.putIn; rw [Env.putIn_no c0]; rfl) | (unfold Env.putInAl; rw [Env.putIn_no c0]; rfl)
    have e27 : ((Env.put d e v p a).ints) = ((Env.putIn d e v p a).ints) := by first | (unfold Env.putIn; rw [if_pos (Env.putIn_yes c0)]) | (unfold Env.putInAl; rw [if_pos (Env.putIn_yes c0)]) | (unfold Env.putIn; rw [Env.putIn_no c0]; rfl) | (unfold Env.putInAl; rw [Env.putIn_no c0]; rfl)
    have e28 : ((Env.put d e v p a).arrs) = ((Env.putIn d e v p a).arrs) := by first | (unfold Env.putIn; rw [if_pos (Env.putIn_yes c0)]) | (unfold Env.putInAl; rw [if_pos (Env.putIn_yes c0)]) | (unfold Env.putIn; rw [Env.putIn_no c0]; rfl) | (unfold Env.putInAl; rw [Env.putIn_no c0]; rfl)
    have hc29 := eq1 (fun z1 => some (g11, g24, O.box [.d (.v (.bool (z1))), .ref [46, 1] (g25), .ref [46, 2] (g25)])) e26
    have e30 : (Env.putAl d v p) = (Env.putInAl d e v p a) := by first | (unfold Env.putIn; rw [if_pos (Env.putIn_yes c0)]) | (unfold Env.putInAl; rw [if_pos (Env.putIn_yes c0)]) | (unfold Env.putIn; rw [Env.putIn_no c0]; rfl) | (unfold Env.putInAl; rw [Env.putIn_no c0]; rfl)
    have hc31 := eq1 (fun z1 => SV.one (.d (.v (.int .i64 (z1))))) e30
    show _ ∧ _
    exact ⟨.inr rfl, .done ⟨_, [], [([46, 1], (g25, g25, .row 39 2 (List.map Iv.c ((Env.putIn d e v p a).ints)))), ([46, 2], (g25, g25, .row 39 2 (List.map Iv.c ((Env.putIn d e v p a).arrs))))], _, .cell (cells := [.d (.v (.bool ((Env.putIn d e v p a).live))), .ref [46, 1] (g25), .ref [46, 2] (g25)]) rfl hc29 t30 rfl rfl (.one (c := .d (.v (.int .i64 (Env.putInAl d e v p a)))) (hc31) .nil), .cons (Reads.d _).gives (.cons (.ref (.head _)) (.cons (.ref (.tail _ (.head _))) (.cons (Reads.d _).gives .nil))), nodupB_ok rfl, by simp, (AllH.get (.cons (rowE (congrArg (List.map Iv.c) e27)) (.cons (rowE (congrArg (List.map Iv.c) e28)) .nil)))⟩⟩
end Go.Proofs

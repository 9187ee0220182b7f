/- Contracts of the program's functions at this seat, printed by a program of ours and checked by Lean: each under the conditions of its own statement. -/
import Derived.Test.YtimohcldmffcoaaGreatDoorF3
set_option linter.all false
set_option linter.unnecessarySimpa false
set_option linter.unusedSectionVars false
set_option linter.unusedSimpArgs false
set_option linter.unusedVariables false
namespace Go.Proofs
open Go Go.Proofs Go.Ev

theorem c_l6Widen (a : Env) (b : Env) (l : List Int) (hj : a.live = true → b.live = true → a.ints.length = b.ints.length ∧ a.arrs.length = b.arrs.length) (hb : a.ints.length ≤ 1048576 ∧ a.arrs.length ≤ 1048576 ∧ b.ints.length ≤ 1048576 ∧ b.arrs.length ≤ 1048576) : Trip Tryz.prog 107 [(true, 3), (true, 3), (false, 1)] (Env.c77 a ++ Env.c77 b ++ [.sl false 2 1 (List.map i64c (l))]) [(true, 3)] [.v (.bool ((Env.joinW (fun x y => Iv.widenOk l x y) a b).live)), .sl true 122 2 (List.map Iv.c ((Env.joinW (fun x y => Iv.widenOk l x y) a b).ints)), .sl true 122 2 (List.map Iv.c ((Env.joinW (fun x y => Iv.widenOk l x y) a b).arrs))] [] := by
 refine Trip.of Tryz.func107 (by decide) (c := _) rfl rfl (shB_ok rfl) (Nat.le_of_ble_eq_true rfl) rfl (AftOk.nil _) ?_
 refine .satA (t := 0) (i := 1) rfl rfl (fun hs1 => ?_)
 have hs1l : a.ints.length ≤ 9223372036854775807 := hs1.maplen
 refine .satA (t := 0) (i := 2) rfl rfl (fun hs2 => ?_)
 have hs2l : a.arrs.length ≤ 9223372036854775807 := hs2.maplen
 refine .satA (t := 1) (i := 1) rfl rfl (fun hs3 => ?_)
 have hs3l : b.ints.length ≤ 9223372036854775807 := hs3.maplen
 refine .satA (t := 1) (i := 2) rfl rfl (fun hs4 => ?_)
 have hs4l : b.arrs.length ≤ 9223372036854775807 := hs4.maplen
 refine .sat (t := 2) rfl (fun hs5 => ?_)
 have hs5l : l.length ≤ 9223372036854775807 := hs5.maplen
 refine .seq ?_
 refine .reg (X := Nat × Nat × Nat) (fun ζ => .of [(2, .one (.d (.sl false 2 1 (List.map i64c (l))))), (3, .one (.ptr [3] (ζ.1) 0)), (4, .one (.ptr [4] (ζ.2.1) 0)), (6, .one (.ptr [6] (ζ.2.2) 0))] [([3], (ζ.1, ζ.1, .box [.d (.v (.bool (a.live))), .d (.sl false 122 2 (List.map Iv.c (a.ints))), .d (.sl false 122 2 (List.map Iv.c (a.arrs)))])), ([4], (ζ.2.1, ζ.2.1, .box [.d (.v (.bool (b.live))), .d (.sl false 122 2 (List.map Iv.c (b.ints))), .d (.sl false 122 2 (List.map Iv.c (b.arrs)))])), ([6], (ζ.2.2, ζ.2.2, .box [.d (.v (.bool (false))), .d (.v (.slice none 0 0)), .d (.v (.slice none 0 0))]))]) [⟨[0], some 3, [], [[3]]⟩, ⟨[1], some 4, [], [[4]]⟩, ⟨[], some 6, [], [[6]]⟩] (fun k6 => ?_) ?_
 ·skip
  refine .box (.no rfl) rfl rfl rfl rfl rfl ?_
  refine .box (.no rfl) rfl rfl rfl rfl rfl ?_
  refine .alloc (.no rfl) rfl z77 rfl rfl rfl ?_
  exact .fin (k6, k6 + 1, k6 + 1 + 1) (.of (.cons rfl (.cons rfl (.cons rfl (.cons rfl .nil)))) (.cons rfl (.cons rfl (.cons rfl .nil))))
 rintro ⟨g7, g8, g9⟩
 refine .seq ?_
 refine .seq ?_
 refine .reg (X := Unit) (fun ζ => .of [(2, .one (.d (.sl false 2 1 (List.map i64c (l))))), (3, .one (.ptr [3] (g7) 0)), (4, .one (.ptr [4] (g8) 0)), (6, .one (.ptr [6] (g9) 0)), (18, .one (.d (.v (.bool ((!a.live || !b.live))))))] [([3], (g7, g7, .box [.d (.v (.bool (a.live))), .d (.sl false 122 2 (List.map Iv.c (a.ints))), .d (.sl false 122 2 (List.map Iv.c (a.arrs)))])), ([4], (g8, g8, .box [.d (.v (.bool (b.live))), .d (.sl false 122 2 (List.map Iv.c (b.ints))), .d (.sl false 122 2 (List.map Iv.c (b.arrs)))])), ([6], (g9, g9, .box [.d (.v (.bool (false))), .d (.v (.slice none 0 0)), .d (.v (.slice none 0 0))]))]) [⟨[3], some 11, [], []⟩, ⟨[11], some 12, [[3]], []⟩, ⟨[12], some 13, [], []⟩, ⟨[13], some 14, [], []⟩, ⟨[14, 4], some 15, [], []⟩, ⟨[14, 15], some 16, [[4]], []⟩, ⟨[14, 16], some 17, [], []⟩, ⟨[14, 17], some 18, [], []⟩] (fun k10 => ?_) ?_
 ·skip
  refine .fieldAddrP (.no rfl) rfl t77 rfl rfl t4 rfl rfl rfl rfl ?_
  refine .load (.no rfl) rfl t4 rfl rfl (.ptr _ _ _ _ _ rfl) rfl rfl rfl rfl ?_
  refine .un (.no rfl) rfl rfl rfl rfl rfl ?_
  refine .moveB (.no rfl) rfl rfl rfl rfl fun b11 g1_3 => ?_
  cases b11
  ·skip
   refine .fieldAddrP (.on rfl rfl rfl rfl rfl) rfl t77 rfl rfl t4 rfl rfl rfl rfl ?_
   refine .load (.on rfl rfl rfl rfl rfl) rfl t4 rfl rfl (.ptr _ _ _ _ _ rfl) rfl rfl rfl rfl ?_
   refine .un (.on rfl rfl rfl rfl rfl) rfl rfl rfl rfl rfl ?_
   refine .pick (.no rfl) rfl rfl rfl rfl rfl ?_
   exact .fin () (.of (.cons rfl (.cons rfl (.cons rfl (.cons rfl (.cons (svB (show (!b.live) = ((!a.live || !b.live)) by first | (simp only [g1_3, Bool.true_or, Bool.false_or, Bool.true_and, Bool.false_and, Bool.not_true, Bool.not_false]; done) | simp [g1_3])) .nil))))) (.cons rfl (.cons rfl (.cons rfl .nil))))
  ·skip
   refine .off rfl rfl rfl rfl rfl rfl rfl ?_
   refine .off rfl rfl rfl rfl rfl rfl rfl ?_
   refine .off rfl rfl rfl rfl rfl rfl rfl ?_
   refine .pick (.no rfl) rfl rfl rfl rfl rfl ?_
   exact .fin () (.of (.cons rfl (.cons rfl (.cons rfl (.cons rfl (.cons (svB (show (true) = ((!a.live || !b.live)) by first | (simp only [g1_3, Bool.true_or, Bool.false_or, Bool.true_and, Bool.false_and, Bool.not_true, Bool.not_false]; done) | simp [g1_3])) .nil))))) (.cons rfl (.cons rfl (.cons rfl .nil))))
 intro _
 refine .cond (t := (!a.live || !b.live)) rfl (fun c0 => ?_) (fun c0 => ?_)
 ·have c0 := c0
  try simp only [Bool.or_eq_true, Bool.or_eq_false_iff, Bool.and_eq_true, Bool.and_eq_false_iff, decide_eq_true_eq, decide_eq_false_iff_not, Bool.not_eq_true', Bool.not_eq_false', bne_iff_ne, beq_iff_eq, bne_eq_false_iff_eq, beq_eq_false_iff_ne, ne_eq, Bool.not_eq_eq_eq_not, Bool.not_true, Bool.not_false] at c0
  refine .seq ?_
  refine .reg (X := Nat × Nat) (fun ζ => .of [(6, .one (.ptr [6] (g9) 0))] [([6], (g9, ζ.1, .box [.d (.v (.bool ((Env.join a b).live))), .ref [21, 1] (ζ.2), .ref [21, 2] (ζ.2)])), ([21, 1], (ζ.2, ζ.2, .row 122 2 (List.map Iv.c ((Env.join a b).ints)))), ([21, 2], (ζ.2, ζ.2, .row 122 2 (List.map Iv.c ((Env.join a b).arrs))))]) [⟨[3], some 19, [[3]], []⟩, ⟨[4], some 20, [[4]], []⟩, ⟨[19, 20], some 21, [], [[21, 1], [21, 2]]⟩, ⟨[6, 21], none, [[6]], [[6]]⟩] (fun k12 => ?_) ?_
  ·skip
   refine .load (.no rfl) rfl t77 rfl rfl (.ptr _ _ _ _ _ rfl) rfl rfl rfl rfl ?_
   refine .load (.no rfl) rfl t77 rfl rfl (.ptr _ _ _ _ _ rfl) rfl rfl rfl rfl ?_
   refine .call (.no rfl) rfl [] [] (c_l6Join a b (by first | assumption | omega | (rw [zip2To_len]; simp at hI c1 ⊢; omega)) (by first | assumption | omega | (rw [zip2To_len]; simp at hI c1 ⊢; omega))) rfl rfl rfl rfl rfl (.cons (Reads.d _).gives (.cons (Reads.d _).gives (.cons (Reads.d _).gives (.cons (Reads.d _).gives (.cons (Reads.d _).gives (.cons (Reads.d _).gives .nil)))))) rfl rfl (fun h => absurd rfl h) (.own [21, 0] (.own [21, 1] (.own [21, 2] .nil))) (.nil) rfl rfl rfl (by simp) rfl rfl rfl ?_
   refine .store (.no rfl) rfl t77 rfl rfl rfl rfl rfl rfl rfl rfl rfl ?_
   exact .fin (k12 + 1 + 1 + 1, k12 + 1 + 1) (.of (.cons rfl .nil) (.cons rfl (.cons rfl (.cons rfl .nil))))
  rintro ⟨g13, g14⟩
  refine .ret ?_
  have e15 : ((Env.join a b).live) = ((Env.joinW (fun x y => Iv.widenOk l x y) a b).live) := by (rw [Env.joinW_dead c0])
  have e16 : ((Env.join a b).ints) = ((Env.joinW (fun x y => Iv.widenOk l x y) a b).ints) := by (rw [Env.joinW_dead c0])
  have e17 : ((Env.join a b).arrs) = ((Env.joinW (fun x y => Iv.widenOk l x y) a b).arrs) := by (rw [Env.joinW_dead c0])
  have hc18 := eq1 (fun z1 => some (g9, g13, O.box [.d (.v (.bool (z1))), .ref [21, 1] (g14), .ref [21, 2] (g14)])) e15
  show _ ∧ _
  exact ⟨.inr rfl, .done ⟨_, [], [([21, 1], (g14, g14, .row 122 2 (List.map Iv.c ((Env.joinW (fun x y => Iv.widenOk l x y) a b).ints)))), ([21, 2], (g14, g14, .row 122 2 (List.map Iv.c ((Env.joinW (fun x y => Iv.widenOk l x y) a b).arrs))))], _, .cell (cells := [.d (.v (.bool ((Env.joinW (fun x y => Iv.widenOk l x y) a b).live))), .ref [21, 1] (g14), .ref [21, 2] (g14)]) rfl hc18 t77 rfl rfl .nil, .cons (Reads.d _).gives (.cons (.ref (.head _)) (.cons (.ref (.tail _ (.head _))) .nil)), nodupB_ok rfl, by simp, (AllH.get (.cons (rowE (congrArg (List.map Iv.c) e16)) (.cons (rowE (congrArg (List.map Iv.c) e17)) .nil)))⟩⟩
 ·have c0 := c0
  try simp only [Bool.or_eq_true, Bool.or_eq_false_iff, Bool.and_eq_true, Bool.and_eq_false_iff, decide_eq_true_eq, decide_eq_false_iff_not, Bool.not_eq_true', Bool.not_eq_false', bne_iff_ne, beq_iff_eq, bne_eq_false_iff_eq, beq_eq_false_iff_ne, ne_eq, Bool.not_eq_eq_eq_not, Bool.not_true, Bool.not_false] at c0
  refine .skip ?_
  refine .seq ?_
  refine .reg (X := Unit) (fun ζ => .of [(2, .one (.d (.sl false 2 1 (List.map i64c (l))))), (3, .one (.ptr [3] (g7) 0)), (4, .one (.ptr [4] (g8) 0)), (6, .one (.ptr [6] (g9) 0)), (7, .one (.d (.sl false 122 2 (List.map Iv.c (a.ints ++ a.arrs)))))] [([3], (g7, g7, .box [.d (.v (.bool (a.live))), .d (.sl false 122 2 (List.map Iv.c (a.ints))), .d (.sl false 122 2 (List.map Iv.c (a.arrs)))])), ([4], (g8, g8, .box [.d (.v (.bool (b.live))), .d (.sl false 122 2 (List.map Iv.c (b.ints))), .d (.sl false 122 2 (List.map Iv.c (b.arrs)))])), ([6], (g9, g9, .box [.d (.v (.bool (false))), .d (.v (.slice none 0 0)), .d (.v (.slice none 0 0))]))]) [⟨[3], some 22, [[3]], []⟩, ⟨[22], some 23, [], []⟩, ⟨[23], some 7, [], []⟩] (fun k19 => ?_) ?_
  ·skip
   refine .load (.no rfl) rfl t77 rfl rfl (.ptr _ _ _ _ _ rfl) rfl rfl rfl rfl ?_
   refine .call (.no rfl) rfl [] [] (c_l6List a (by first | assumption | omega | (rw [zip2To_len]; simp at hI c1 ⊢; omega))) rfl rfl rfl rfl rfl (.cons (Reads.d _).gives (.cons (Reads.d _).gives (.cons (Reads.d _).gives .nil))) rfl rfl (fun h => absurd rfl h) (.frz [23, 0] (Frz.of_erase (erase_slo _ _ _ _ _ _ Iv.c_e)) .nil) (.nil) rfl rfl rfl (by simp) rfl rfl rfl ?_
   refine .assign (.no rfl) rfl rfl rfl rfl ?_
   exact .fin () (.of (.cons rfl (.cons rfl (.cons rfl (.cons rfl (.cons rfl .nil))))) (.cons rfl (.cons rfl (.cons rfl .nil))))
  intro _
  refine .seq ?_
  refine .reg (X := Unit) (fun ζ => .of [(2, .one (.d (.sl false 2 1 (List.map i64c (l))))), (3, .one (.ptr [3] (g7) 0)), (6, .one (.ptr [6] (g9) 0)), (7, .one (.d (.sl false 122 2 (List.map Iv.c (a.ints ++ a.arrs))))), (8, .one (.d (.sl false 122 2 (List.map Iv.c (b.ints ++ b.arrs)))))] [([3], (g7, g7, .box [.d (.v (.bool (a.live))), .d (.sl false 122 2 (List.map Iv.c (a.ints))), .d (.sl false 122 2 (List.map Iv.c (a.arrs)))])), ([6], (g9, g9, .box [.d (.v (.bool (false))), .d (.v (.slice none 0 0)), .d (.v (.slice none 0 0))]))]) [⟨[4], some 24, [[4]], []⟩, ⟨[24], some 25, [], []⟩, ⟨[25], some 8, [], []⟩] (fun k20 => ?_) ?_
  ·skip
   refine .load (.no rfl) rfl t77 rfl rfl (.ptr _ _ _ _ _ rfl) rfl rfl rfl rfl ?_
   refine .call (.no rfl) rfl [] [] (c_l6List b (by first | assumption | omega | (rw [zip2To_len]; simp at hI c1 ⊢; omega))) rfl rfl rfl rfl rfl (.cons (Reads.d _).gives (.cons (Reads.d _).gives (.cons (Reads.d _).gives .nil))) rfl rfl (fun h => absurd rfl h) (.frz [25, 0] (Frz.of_erase (erase_slo _ _ _ _ _ _ Iv.c_e)) .nil) (.nil) rfl rfl rfl (by simp) rfl rfl rfl ?_
   refine .assign (.no rfl) rfl rfl rfl rfl ?_
   exact .fin () (.of (.cons rfl (.cons rfl (.cons rfl (.cons rfl (.cons rfl .nil))))) (.cons rfl (.cons rfl .nil)))
  intro _
  refine .seq ?_
  refine .reg (X := Nat) (fun ζ => .of [(2, .one (.d (.sl false 2 1 (List.map i64c (l))))), (3, .one (.ptr [3] (g7) 0)), (6, .one (.ptr [6] (g9) 0)), (7, .one (.d (.sl false 122 2 (List.map Iv.c (a.ints ++ a.arrs))))), (8, .one (.d (.sl false 122 2 (List.map Iv.c (b.ints ++ b.arrs))))), (9, .one (.ref [26] (ζ)))] [([3], (g7, g7, .box [.d (.v (.bool (a.live))), .d (.sl false 122 2 (List.map Iv.c (a.ints))), .d (.sl false 122 2 (List.map Iv.c (a.arrs)))])), ([6], (g9, g9, .box [.d (.v (.bool (false))), .d (.v (.slice none 0 0)), .d (.v (.slice none 0 0))])), ([26], (ζ, ζ, .row 122 2 ([])))]) [⟨[], some 26, [], [[26]]⟩, ⟨[26], some 9, [], []⟩] (fun k21 => ?_) ?_
  ·skip
   refine .buildSlice (.no rfl) rfl (els := []) t75 rfl z122 rfl rfl rfl rfl rfl rfl rfl rfl (by simp [i122]) .nil rfl rfl rfl ?_
   refine .assign (.no rfl) rfl rfl rfl rfl ?_
   exact .fin k21 (.of (.cons rfl (.cons rfl (.cons rfl (.cons rfl (.cons rfl (.cons rfl .nil)))))) (.cons rfl (.cons rfl (.cons rfl .nil))))
  intro g22
  refine .seq ?_
  refine .seq ?_
  refine .reg (X := Unit) (fun ζ => .of [(2, .one (.d (.sl false 2 1 (List.map i64c (l))))), (3, .one (.ptr [3] (g7) 0)), (6, .one (.ptr [6] (g9) 0)), (7, .one (.d (.sl false 122 2 (List.map Iv.c (a.ints ++ a.arrs))))), (8, .one (.d (.sl false 122 2 (List.map Iv.c (b.ints ++ b.arrs))))), (9, .one (.ref [26] (g22))), (10, .one (.d (.v (.int .i64 (0)))))] [([3], (g7, g7, .box [.d (.v (.bool (a.live))), .d (.sl false 122 2 (List.map Iv.c (a.ints))), .d (.sl false 122 2 (List.map Iv.c (a.arrs)))])), ([6], (g9, g9, .box [.d (.v (.bool (false))), .d (.v (.slice none 0 0)), .d (.v (.slice none 0 0))])), ([26], (g22, g22, .row 122 2 ([])))]) [⟨[], some 10, [], []⟩] (fun k23 => ?_) ?_
  ·skip
   refine .assign (.no rfl) rfl rfl rfl rfl ?_
   exact .fin () (.of (.cons rfl (.cons rfl (.cons rfl (.cons rfl (.cons rfl (.cons rfl (.cons rfl .nil))))))) (.cons rfl (.cons rfl (.cons rfl .nil))))
  intro _
  refine .block ?_
  refine .loop (X := Nat × Nat × Nat) (fun ζ => .of [(2, .one (.d (.sl false 2 1 (List.map i64c (l))))), (3, .one (.ptr [3] (g7) 0)), (6, .one (.ptr [6] (g9) 0)), (7, .one (.d (.sl false 122 2 (List.map Iv.c (a.ints ++ a.arrs))))), (8, .one (.d (.sl false 122 2 (List.map Iv.c (b.ints ++ b.arrs))))), (9, .one (.ref [26] (ζ.2.1))), (10, .one (.d (.v (.int .i64 ((ζ.1 : Int))))))] [([3], (g7, g7, .box [.d (.v (.bool (a.live))), .d (.sl false 122 2 (List.map Iv.c (a.ints))), .d (.sl false 122 2 (List.map Iv.c (a.arrs)))])), ([6], (g9, g9, .box [.d (.v (.bool (false))), .d (.v (.slice none 0 0)), .d (.v (.slice none 0 0))])), ([26], (ζ.2.1, ζ.2.2, .row 122 2 (List.map Iv.c (zip2To (fun x y => Iv.widenOk l x y) (a.ints ++ a.arrs) (b.ints ++ b.arrs) ζ.1))))]) (fun ζ => ζ.1 ≤ (a.ints ++ a.arrs).length) (fun ζ => (a.ints ++ a.arrs).length - ζ.1) ?_ ?_
  ·skip
   exact .here (0, g22, g22) (.of (.cons rfl (.cons rfl (.cons rfl (.cons rfl (.cons rfl (.cons rfl (.cons (svI (show (0) = ((0 : Int)) by first | rfl | omega | exact wrap_le (by omega) (by omega) | (rw [wrap_le (by omega) (by omega)]; omega))) .nil))))))) (.cons rfl (.cons rfl (.cons (rowE (show [] = List.map Iv.c (zip2To (fun x y => Iv.widenOk l x y) (a.ints ++ a.arrs) (b.ints ++ b.arrs) 0) by first | rfl | exact congrArg _ (zip2To_step (fun x y => Iv.widenOk l x y) _ _ _))) .nil)))) (show 0 ≤ (a.ints ++ a.arrs).length by omega)
  ·rintro ⟨j, q24, q25⟩ hI
   have hI : j ≤ (a.ints ++ a.arrs).length := hI
   have hn9 : (a.ints ++ a.arrs).length ≤ 3145728 := by simp; omega
   have hn8 : (a.ints ++ a.arrs).length = (b.ints ++ b.arrs).length := by have := hj c0.1 c0.2; simp; omega
   have hn7 := zip2To_len (fun x y => Iv.widenOk l x y) (a.ints ++ a.arrs) (b.ints ++ b.arrs) j
   refine .seq ?_
   refine .seq ?_
   refine .reg (X := Unit) (fun ζ => .of [(2, .one (.d (.sl false 2 1 (List.map i64c (l))))), (3, .one (.ptr [3] (g7) 0)), (6, .one (.ptr [6] (g9) 0)), (7, .one (.d (.sl false 122 2 (List.map Iv.c (a.ints ++ a.arrs))))), (8, .one (.d (.sl false 122 2 (List.map Iv.c (b.ints ++ b.arrs))))), (9, .one (.ref [26] (q24))), (10, .one (.d (.v (.int .i64 ((j : Int)))))), (30, .one (.d (.v (.bool (decide ((j : Int) < ((a.ints ++ a.arrs).length : Int)))))))] [([3], (g7, g7, .box [.d (.v (.bool (a.live))), .d (.sl false 122 2 (List.map Iv.c (a.ints))), .d (.sl false 122 2 (List.map Iv.c (a.arrs)))])), ([6], (g9, g9, .box [.d (.v (.bool (false))), .d (.v (.slice none 0 0)), .d (.v (.slice none 0 0))])), ([26], (q24, q25, .row 122 2 (List.map Iv.c (zip2To (fun x y => Iv.widenOk l x y) (a.ints ++ a.arrs) (b.ints ++ b.arrs) j))))]) [⟨[10], some 27, [], []⟩, ⟨[7], some 28, [], []⟩, ⟨[28], some 29, [], []⟩, ⟨[27, 29], some 30, [], []⟩] (fun k26 => ?_) ?_
   ·skip
    refine .move (.no rfl) rfl rfl rfl rfl ?_
    refine .move (.no rfl) rfl rfl rfl rfl ?_
    refine .len (.no rfl) rfl (z := ((a.ints ++ a.arrs).length : Int)) t75 rfl rfl rfl (.d _ _) (map_len _ _) rfl ?_
    refine .bin (.no rfl) rfl rfl rfl rfl rfl rfl ?_
    exact .fin () (.of (.cons rfl (.cons rfl (.cons rfl (.cons rfl (.cons rfl (.cons rfl (.cons rfl (.cons rfl .nil)))))))) (.cons rfl (.cons rfl (.cons rfl .nil))))
   intro _
   refine .cond (t := decide ((j : Int) < ((a.ints ++ a.arrs).length : Int))) rfl (fun c1 => ?_) (fun c1 => ?_)
   ·have c1 := of_decide_eq_true c1
    refine .skip ?_
    refine .seq ?_
    refine .block ?_
    refine .regD (X := Nat) (by kernel_rfl) (fun ζ => .of [(2, .one (.d (.sl false 2 1 (List.map i64c (l))))), (3, .one (.ptr [3] (g7) 0)), (6, .one (.ptr [6] (g9) 0)), (7, .one (.d (.sl false 122 2 (List.map Iv.c (a.ints ++ a.arrs))))), (8, .one (.d (.sl false 122 2 (List.map Iv.c (b.ints ++ b.arrs))))), (9, .one (.ref [26] (ζ))), (10, .one (.d (.v (.int .i64 ((j : Int))))))] [([3], (g7, g7, .box [.d (.v (.bool (a.live))), .d (.sl false 122 2 (List.map Iv.c (a.ints))), .d (.sl false 122 2 (List.map Iv.c (a.arrs)))])), ([6], (g9, g9, .box [.d (.v (.bool (false))), .d (.v (.slice none 0 0)), .d (.v (.slice none 0 0))])), ([26], (ζ, ζ, .row 122 2 (List.map Iv.c (zip2To (fun x y => Iv.widenOk l x y) (a.ints ++ a.arrs) (b.ints ++ b.arrs) j ++ [(Iv.widenOk l ((a.ints ++ a.arrs).getD (j) default) ((b.ints ++ b.arrs).getD (j) default))]))))]) [⟨[9], some 33, [], []⟩, ⟨[7], some 34, [], []⟩, ⟨[10], some 35, [], []⟩, ⟨[34, 35], some 36, [], []⟩, ⟨[36], some 37, [], []⟩, ⟨[8], some 38, [], []⟩, ⟨[10], some 39, [], []⟩, ⟨[38, 39], some 40, [], []⟩, ⟨[40], some 41, [], []⟩, ⟨[2], some 42, [], []⟩, ⟨[37, 41, 42], some 43, [], []⟩, ⟨[43], some 44, [], [[44]]⟩, ⟨[33, 44], some 45, [[26], [44]], [[44], [26]]⟩, ⟨[45], some 9, [], []⟩] (by kernel_rfl) (fun k27 => ?_) ?_
    ·skip
     refine .move (.no rfl) rfl rfl rfl rfl ?_
     refine .move (.no rfl) rfl rfl rfl rfl ?_
     refine .move (.no rfl) rfl rfl rfl rfl ?_
     refine .indexAddr (.no rfl) rfl (j) t75 rfl t122 rfl rfl rfl (.d _ _) rfl rfl rfl (map_get (by omega)) rfl rfl ?_
     refine .load (.no rfl) rfl t122 rfl rfl (.d _) rfl rfl rfl rfl ?_
     refine .move (.no rfl) rfl rfl rfl rfl ?_
     refine .move (.no rfl) rfl rfl rfl rfl ?_
     refine .indexAddr (.no rfl) rfl (j) t75 rfl t122 rfl rfl rfl (.d _ _) rfl rfl rfl (map_get (by omega)) rfl rfl ?_
     refine .load (.no rfl) rfl t122 rfl rfl (.d _) rfl rfl rfl rfl ?_
     refine .move (.no rfl) rfl rfl rfl rfl ?_
     refine .call (.no rfl) rfl [] [] (c_sIvWiden ((a.ints ++ a.arrs).getD (j) default) ((b.ints ++ b.arrs).getD (j) default) l) rfl rfl rfl rfl rfl (.cons (Reads.d _).gives (.cons (Reads.d _).gives (.cons (Reads.d _).gives (.cons (Reads.d _).gives (.cons (Reads.d _).gives .nil))))) rfl rfl (fun h => absurd rfl h) (.own [43, 0] (.own [43, 1] .nil)) (.nil) rfl rfl rfl (by simp) rfl rfl rfl ?_
     refine .buildSlice (.no rfl) rfl (els := [[.v (.int .i64 ((Iv.widenOk l ((a.ints ++ a.arrs).getD (j) default) ((b.ints ++ b.arrs).getD (j) default)).lo)), .v (.int .i64 ((Iv.widenOk l ((a.ints ++ a.arrs).getD (j) default) ((b.ints ++ b.arrs).getD (j) default)).hi))]]) t75 rfl z122 rfl rfl rfl rfl rfl rfl rfl rfl (by simp [i122]) (.cons _ _ _ _ _ _ (.d _) (.cons _ _ _ _ _ _ (.d _) .nil)) rfl rfl rfl ?_
     refine .append (.no rfl) rfl (l3 := List.map Iv.c (zip2To (fun x y => Iv.widenOk l x y) (a.ints ++ a.arrs) (b.ints ++ b.arrs) j ++ [(Iv.widenOk l ((a.ints ++ a.arrs).getD (j) default) ((b.ints ++ b.arrs).getD (j) default))])) t75 rfl z122 rfl rfl rfl rfl rfl rfl rfl rfl (.ref _ _ _ _ rfl) (.take _ _ _ _ _ rfl) rfl (by simp [i122]; omega) (map_snoc _ _ _) rfl rfl ?_
     refine .assign (.no rfl) rfl rfl rfl rfl ?_
     exact .fin (k27 + 1 + 1 + 1 + 1 + 1 + 1 + 1 + 1 + 1 + 1 + 1 + 1) (.of (.cons rfl (.cons rfl (.cons rfl (.cons rfl (.cons rfl (.cons rfl (.cons rfl .nil))))))) (.cons rfl (.cons rfl (.cons rfl .nil))))
    intro g28
    refine .reg (X := Unit) (fun ζ => .of [(2, .one (.d (.sl false 2 1 (List.map i64c (l))))), (3, .one (.ptr [3] (g7) 0)), (6, .one (.ptr [6] (g9) 0)), (7, .one (.d (.sl false 122 2 (List.map Iv.c (a.ints ++ a.arrs))))), (8, .one (.d (.sl false 122 2 (List.map Iv.c (b.ints ++ b.arrs))))), (9, .one (.ref [26] (g28))), (10, .one (.d (.v (.int .i64 (IntKind.wrap .i64 ((j : Int) + 1))))))] [([3], (g7, g7, .box [.d (.v (.bool (a.live))), .d (.sl false 122 2 (List.map Iv.c (a.ints))), .d (.sl false 122 2 (List.map Iv.c (a.arrs)))])), ([6], (g9, g9, .box [.d (.v (.bool (false))), .d (.v (.slice none 0 0)), .d (.v (.slice none 0 0))])), ([26], (g28, g28, .row 122 2 (List.map Iv.c (zip2To (fun x y => Iv.widenOk l x y) (a.ints ++ a.arrs) (b.ints ++ b.arrs) j ++ [(Iv.widenOk l ((a.ints ++ a.arrs).getD (j) default) ((b.ints ++ b.arrs).getD (j) default))]))))]) [⟨[10], some 31, [], []⟩, ⟨[31], some 32, [], []⟩, ⟨[32], some 10, [], []⟩] (fun k29 => ?_) ?_
    ·skip
     refine .move (.no rfl) rfl rfl rfl rfl ?_
     refine .bin (.no rfl) rfl rfl rfl rfl rfl rfl ?_
     refine .assign (.no rfl) rfl rfl rfl rfl ?_
     exact .fin () (.of (.cons rfl (.cons rfl (.cons rfl (.cons rfl (.cons rfl (.cons rfl (.cons rfl .nil))))))) (.cons rfl (.cons rfl (.cons rfl .nil))))
    intro _
    exact .here ((j + 1), g28, g28) (.of (.cons rfl (.cons rfl (.cons rfl (.cons rfl (.cons rfl (.cons rfl (.cons (svI (show (IntKind.wrap .i64 ((j : Int) + 1)) = (((j + 1) : Int)) by first | rfl | omega | exact wrap_le (by omega) (by omega) | (rw [wrap_le (by omega) (by omega)]; omega))) .nil))))))) (.cons rfl (.cons rfl (.cons (rowE (show List.map Iv.c (zip2To (fun x y => Iv.widenOk l x y) (a.ints ++ a.arrs) (b.ints ++ b.arrs) j ++ [(Iv.widenOk l ((a.ints ++ a.arrs).getD (j) default) ((b.ints ++ b.arrs).getD (j) default))]) = List.map Iv.c (zip2To (fun x y => Iv.widenOk l x y) (a.ints ++ a.arrs) (b.ints ++ b.arrs) (j + 1)) by first | rfl | exact congrArg _ (zip2To_step (fun x y => Iv.widenOk l x y) _ _ _))) .nil)))) ⟨(show (j + 1) ≤ (a.ints ++ a.arrs).length by omega), (show (a.ints ++ a.arrs).length - (j + 1) < (a.ints ++ a.arrs).length - j by omega)⟩
   ·have c1 := of_decide_eq_false c1
    refine .exit ?_
    refine .seq ?_
    refine .reg (X := Nat × Nat) (fun ζ => .of [(6, .one (.ptr [6] (g9) 0))] [([6], (g9, ζ.1, .box [.d (.v (.bool ((Env.mk true ((zip2To (fun x y => Iv.widenOk l x y) (a.ints ++ a.arrs) (b.ints ++ b.arrs) j).take a.ints.length) ((zip2To (fun x y => Iv.widenOk l x y) (a.ints ++ a.arrs) (b.ints ++ b.arrs) j).drop a.ints.length)).live))), .ref [50, 1] (ζ.2), .ref [50, 2] (ζ.2)])), ([50, 1], (ζ.2, ζ.2, .row 122 2 (List.map Iv.c ((Env.mk true ((zip2To (fun x y => Iv.widenOk l x y) (a.ints ++ a.arrs) (b.ints ++ b.arrs) j).take a.ints.length) ((zip2To (fun x y => Iv.widenOk l x y) (a.ints ++ a.arrs) (b.ints ++ b.arrs) j).drop a.ints.length)).ints)))), ([50, 2], (ζ.2, ζ.2, .row 122 2 (List.map Iv.c ((Env.mk true ((zip2To (fun x y => Iv.widenOk l x y) (a.ints ++ a.arrs) (b.ints ++ b.arrs) j).take a.ints.length) ((zip2To (fun x y => Iv.widenOk l x y) (a.ints ++ a.arrs) (b.ints ++ b.arrs) j).drop a.ints.length)).arrs))))]) [⟨[9], some 46, [], []⟩, ⟨[3], some 47, [], []⟩, ⟨[47], some 48, [[3]], []⟩, ⟨[48], some 49, [], []⟩, ⟨[46, 49], some 50, [[26]], [[50, 1], [50, 2]]⟩, ⟨[6, 50], none, [[6]], [[6]]⟩] (fun k30 => ?_) ?_
    ·skip
     refine .move (.no rfl) rfl rfl rfl rfl ?_
     refine .fieldAddrP (.no rfl) rfl t77 rfl rfl t75 rfl rfl rfl rfl ?_
     refine .load (.no rfl) rfl t75 rfl rfl (.ptr _ _ _ _ _ rfl) rfl rfl rfl rfl ?_
     refine .len (.no rfl) rfl (z := (a.ints.length : Int)) t75 rfl rfl rfl (.d _ _) (map_len _ _) rfl ?_
     refine .call (.no rfl) rfl [[26]] [([26], (q24, q25, .row 122 2 (List.map Iv.c (zip2To (fun x y => Iv.widenOk l x y) (a.ints ++ a.arrs) (b.ints ++ b.arrs) j))))] (c_l6Of (zip2To (fun x y => Iv.widenOk l x y) (a.ints ++ a.arrs) (b.ints ++ b.arrs) j) a.ints.length (by first | assumption | omega | (rw [zip2To_len]; simp at hI c1 ⊢; omega))) rfl rfl rfl rfl rfl (.cons (Reads.ref (Frz.of_erase (erase_slo _ _ _ _ _ _ Iv.c_e)) (.head _) (.head _)).gives (.cons (Reads.d _).gives .nil)) rfl rfl (fun _ => (ownCons (Owned.v _) (ownCons (Owned.map _ _ _ _ Iv.c_o) (ownCons (Owned.map _ _ _ _ Iv.c_o) ownNil)))) (.own [50, 0] (.own [50, 1] (.own [50, 2] .nil))) (.nil) rfl rfl rfl (AllH.get (.cons rfl .nil)) rfl rfl rfl ?_
     refine .store (.no rfl) rfl t77 rfl rfl rfl rfl rfl rfl rfl rfl rfl ?_
     exact .fin (k30 + 1 + 1 + 1 + 1 + 1, k30 + 1 + 1 + 1 + 1) (.of (.cons rfl .nil) (.cons rfl (.cons rfl (.cons rfl .nil))))
    rintro ⟨g31, g32⟩
    refine .ret ?_
    have e33 : ((Env.mk true ((zip2To (fun x y => Iv.widenOk l x y) (a.ints ++ a.arrs) (b.ints ++ b.arrs) j).take a.ints.length) ((zip2To (fun x y => Iv.widenOk l x y) (a.ints ++ a.arrs) (b.ints ++ b.arrs) j).drop a.ints.length)).live) = ((Env.joinW (fun x y => Iv.widenOk l x y) a b).live) := by (have hj9 := hj c0.1 c0.2; first | (rw [Env.joinW_live c0]; done) | skip; rw [Env.joinW_live c0]; first | rfl | (rw [zip2To_all (fun x y => Iv.widenOk l x y) hI (by omega)]; exact zip2_take _ hj9.1) | (rw [zip2To_all (fun x y => Iv.widenOk l x y) hI (by omega)]; exact zip2_drop _ hj9.1))
    have e34 : ((Env.mk true ((zip2To (fun x y => Iv.widenOk l x y) (a.ints ++ a.arrs) (b.ints ++ b.arrs) j).take a.ints.length) ((zip2To (fun x y => Iv.widenOk l x y) (a.ints ++ a.arrs) (b.ints ++ b.arrs) j).drop a.ints.length)).ints) = ((Env.joinW (fun x y => Iv.widenOk l x y) a b).ints) := by (have hj9 := hj c0.1 c0.2; first | (rw [Env.joinW_live c0]; done) | skip; rw [Env.joinW_live c0]; first | rfl | (rw [zip2To_all (fun x y => Iv.widenOk l x y) hI (by omega)]; exact zip2_take _ hj9.1) | (rw [zip2To_all (fun x y => Iv.widenOk l x y) hI (by omega)]; exact zip2_drop _ hj9.1))
    have e35 : ((Env.mk true ((zip2To (fun x y => Iv.widenOk l x y) (a.ints ++ a.arrs) (b.ints ++ b.arrs) j).take a.ints.length) ((zip2To (fun x y => Iv.widenOk l x y) (a.ints ++ a.arrs) (b.ints ++ b.arrs) j).drop a.ints.length)).arrs) = ((Env.joinW (fun x y => Iv.widenOk l x y) a b).arrs) := by (have hj9 := hj c0.1 c0.2; first | (rw [Env.joinW_live c0]; done) | skip; rw [Env.joinW_live c0]; first | rfl | (rw [zip2To_all (fun x y => Iv.widenOk l x y) hI (by omega)]; exact zip2_take _ hj9.1) | (rw [zip2To_all (fun x y => Iv.widenOk l x y) hI (by omega)]; exact zip2_drop _ hj9.1))
    have hc36 := eq1 (fun z1 => some (g9, g31, O.box [.d (.v (.bool (z1))), .ref [50, 1] (g32), .ref [50, 2] (g32)])) e33
    show _ ∧ _
    exact ⟨.inr rfl, .done ⟨_, [], [([50, 1], (g32, g32, .row 122 2 (List.map Iv.c ((Env.joinW (fun x y => Iv.widenOk l x y) a b).ints)))), ([50, 2], (g32, g32, .row 122 2 (List.map Iv.c ((Env.joinW (fun x y => Iv.widenOk l x y) a b).arrs))))], _, .cell (cells := [.d (.v (.bool ((Env.joinW (fun x y => Iv.widenOk l x y) a b).live))), .ref [50, 1] (g32), .ref [50, 2] (g32)]) rfl hc36 t77 rfl rfl .nil, .cons (Reads.d _).gives (.cons (.ref (.head _)) (.cons (.ref (.tail _ (.head _))) .nil)), nodupB_ok rfl, by simp, (AllH.get (.cons (rowE (congrArg (List.map Iv.c) e34)) (.cons (rowE (congrArg (List.map Iv.c) e35)) .nil)))⟩⟩
end Go.Proofs

namespace Go.Proofs
open Go Go.Proofs Go.Ev

theorem c_widening1 (x : Iv) (y : Iv) (l : List Int) : Trip Tryz.prog 109 [(true, 2), (true, 2), (false, 1)] (Iv.c x ++ Iv.c y ++ [.pt false [.sl false 2 1 (List.map i64c (l))]]) [(true, 2)] [.v (.int .i64 ((Iv.widenOk l x y).lo)), .v (.int .i64 ((Iv.widenOk l x y).hi))] [] := by
 refine Trip.of Tryz.func109 (by decide) (c := _) rfl rfl (shB_ok rfl) (Nat.le_of_ble_eq_true rfl) rfl (AftOk.nil _) ?_
 refine .seq ?_
 refine .reg (X := Nat × Nat × Nat) (fun ζ => .of [(2, .one (.d (.pt false [.sl false 2 1 (List.map i64c (l))]))), (3, .one (.ptr [3] (ζ.1) 0)), (4, .one (.ptr [4] (ζ.2.1) 0)), (5, .one (.ptr [5] (ζ.2.2) 0))] [([3], (ζ.1, ζ.1, .box [.d (.v (.int .i64 (x.lo))), .d (.v (.int .i64 (x.hi)))])), ([4], (ζ.2.1, ζ.2.1, .box [.d (.v (.int .i64 (y.lo))), .d (.v (.int .i64 (y.hi)))])), ([5], (ζ.2.2, ζ.2.2, .box [.d (.v (.int .i64 (0))), .d (.v (.int .i64 (0)))]))]) [⟨[0], some 3, [], [[3]]⟩, ⟨[1], some 4, [], [[4]]⟩, ⟨[], some 5, [], [[5]]⟩] (fun k1 => ?_) ?_
 ·skip
  refine .box (.no rfl) rfl rfl rfl rfl rfl ?_
  refine .box (.no rfl) rfl rfl rfl rfl rfl ?_
  refine .alloc (.no rfl) rfl z122 rfl rfl rfl ?_
  exact .fin (k1, k1 + 1, k1 + 1 + 1) (.of (.cons rfl (.cons rfl (.cons rfl (.cons rfl .nil)))) (.cons rfl (.cons rfl (.cons rfl .nil))))
 rintro ⟨g2, g3, g4⟩
 refine .seq ?_
 refine .reg (X := Nat) (fun ζ => .of [(5, .one (.ptr [5] (g4) 0))] [([5], (g4, ζ, .box [.d (.v (.int .i64 ((Iv.widenOk l x y).lo))), .d (.v (.int .i64 ((Iv.widenOk l x y).hi)))]))]) [⟨[3], some 6, [[3]], []⟩, ⟨[4], some 7, [[4]], []⟩, ⟨[2], some 8, [], []⟩, ⟨[6, 7, 8], some 9, [], []⟩, ⟨[5, 9], none, [[5]], [[5]]⟩] (fun k5 => ?_) ?_
 ·skip
  refine .load (.no rfl) rfl t122 rfl rfl (.ptr _ _ _ _ _ rfl) rfl rfl rfl rfl ?_
  refine .load (.no rfl) rfl t122 rfl rfl (.ptr _ _ _ _ _ rfl) rfl rfl rfl rfl ?_
  refine .load (.no rfl) rfl t27 rfl rfl (.d _) rfl rfl rfl rfl ?_
  refine .call (.no rfl) rfl [] [] (c_IvWiden x y l) rfl rfl rfl rfl rfl (.cons (Reads.d _).gives (.cons (Reads.d _).gives (.cons (Reads.d _).gives (.cons (Reads.d _).gives (.cons (Reads.d _).gives .nil))))) rfl rfl (fun h => absurd rfl h) (.own [9, 0] (.own [9, 1] .nil)) (.nil) rfl rfl rfl (by simp) rfl rfl rfl ?_
  refine .store (.no rfl) rfl t122 rfl rfl rfl rfl rfl rfl rfl rfl rfl ?_
  exact .fin (k5 + 1 + 1 + 1 + 1) (.of (.cons rfl .nil) (.cons rfl .nil))
 intro g6
 refine .ret ?_
 show _ ∧ _
 exact ⟨.inr rfl, .done ⟨_, [], [], _, .cell (cells := [.d (.v (.int .i64 ((Iv.widenOk l x y).lo))), .d (.v (.int .i64 ((Iv.widenOk l x y).hi)))]) rfl rfl t122 rfl rfl .nil, .cons (Reads.d _).gives (.cons (Reads.d _).gives .nil), nodupB_ok rfl, by simp, (by simp)⟩⟩
theorem c_widening (l : List Int) : Trip Tryz.prog 69 [(false, 1)] ([.sl false 2 1 (List.map i64c (l))]) [(false, 1)] [.fn 109 [] [.pt false [.sl false 2 1 (List.map i64c (l))]]] [] := by
 refine Trip.of Tryz.func69 (by decide) (c := _) rfl rfl (shB_ok rfl) (Nat.le_of_ble_eq_true rfl) rfl (AftOk.nil _) ?_
 refine .sat (t := 0) rfl (fun hs1 => ?_)
 have hs1l : l.length ≤ 9223372036854775807 := hs1.maplen
 refine .seq ?_
 refine .reg (X := Nat) (fun ζ => .of [(1, .one (.ptr [1] (ζ) 0))] [([1], (ζ, ζ, .box [.d (.sl false 2 1 (List.map i64c (l)))]))]) [⟨[0], some 1, [], [[1]]⟩, ⟨[], some 2, [], []⟩] (fun k2 => ?_) ?_
 ·skip
  refine .box (.no rfl) rfl rfl rfl rfl rfl ?_
  refine .assign (.no rfl) rfl rfl rfl rfl ?_
  exact .fin k2 (.of (.cons rfl .nil) (.cons rfl .nil))
 intro g3
 refine .seq ?_
 refine .reg (X := Unit) (fun ζ => .of [(2, .one (.clo 109 [] [.ptr [1] (g3) 0]))] [([1], (g3, g3, .box [.d (.sl false 2 1 (List.map i64c (l)))]))]) [⟨[1], some 3, [], []⟩, ⟨[3], some 2, [], []⟩] (fun k4 => ?_) ?_
 ·skip
  refine .makeFunc (.no rfl) rfl rfl rfl rfl rfl ?_
  refine .assign (.no rfl) rfl rfl rfl rfl ?_
  exact .fin () (.of (.cons rfl .nil) (.cons rfl .nil))
 intro _
 refine .ret ?_
 show _ ∧ _
 exact ⟨.inr rfl, .done ⟨_, [[1]], [([1], (g3, g3, .box [.d (.sl false 2 1 (List.map i64c (l)))]))], _, .one rfl .nil, .cons (Reads.clo0 (.cons (Reads.ptr0 (.head _) (.head _) (.cons (Reads.d _) .nil)) .nil)).gives .nil, nodupB_ok rfl, by simp, (AllH.get (.cons rfl .nil))⟩⟩
end Go.Proofs

namespace Go.Proofs
open Go Go.Proofs Go.Ev

def i26 : TI := ⟨.sl 69, 1, 24, [.slice none 0 0]⟩
theorem t26 : TyOk Tryz.prog 26 i26 := ⟨Tryz.underlying26, by kernel_rfl⟩
theorem z26 : ZOk Tryz.prog 26 i26 := ⟨t26, rfl⟩
theorem c_szEnvS (a : List Env) (left : Int) (hl : 0 ≤ left ∧ left ≤ 1048576) : Trip Tryz.prog 8 [(false, 1), (false, 1)] ([.sl false 69 3 (List.map Env.c69 (a))] ++ [.v (.int .i64 (left))]) [(false, 1)] [.v (.int .i64 (szEnvS a left))] [] := by
 refine Trip.of Tryz.func8 (by decide) (c := _) rfl rfl (shB_ok rfl) (Nat.le_of_ble_eq_true rfl) rfl (AftOk.nil _) ?_
 refine .sat (t := 0) rfl (fun hs1 => ?_)
 have hs1l : a.length ≤ 9223372036854775807 := hs1.maplen
 refine .seq ?_
 refine .reg (X := Unit) (fun ζ => .of [(0, .one (.d (.sl false 69 3 (List.map Env.c69 (a))))), (1, .one (.d (.v (.int .i64 (left)))))] []) [⟨[], some 4, [], []⟩] (fun k2 => ?_) ?_
 ·skip
  refine .assign (.no rfl) rfl rfl rfl rfl ?_
  exact .fin () (.of (.cons rfl (.cons rfl .nil)) .nil)
 intro _
 refine .seq ?_
 refine .reg (X := Unit) (fun ζ => .of [(0, .one (.d (.sl false 69 3 (List.map Env.c69 (a))))), (1, .one (.d (.v (.int .i64 (IntKind.wrap .i64 (left - (a.length : Int)))))))] []) [⟨[1], some 6, [], []⟩, ⟨[0], some 7, [], []⟩, ⟨[7], some 8, [], []⟩, ⟨[6, 8], some 9, [], []⟩, ⟨[9], some 1, [], []⟩] (fun k3 => ?_) ?_
 ·skip
  refine .move (.no rfl) rfl rfl rfl rfl ?_
  refine .move (.no rfl) rfl rfl rfl rfl ?_
  refine .len (.no rfl) rfl (z := (a.length : Int)) t26 rfl rfl rfl (.d _ _) (map_len _ _) rfl ?_
  refine .bin (.no rfl) rfl rfl rfl rfl rfl rfl ?_
  refine .assign (.no rfl) rfl rfl rfl rfl ?_
  exact .fin () (.of (.cons rfl (.cons rfl .nil)) .nil)
 intro _
 refine .seq ?_
 refine .seq ?_
 refine .reg (X := Unit) (fun ζ => .of [(0, .one (.d (.sl false 69 3 (List.map Env.c69 (a))))), (1, .one (.d (.v (.int .i64 (IntKind.wrap .i64 (left - (a.length : Int))))))), (11, .one (.d (.v (.bool (decide ((IntKind.wrap .i64 (left - (a.length : Int))) < 0))))))] []) [⟨[1], some 10, [], []⟩, ⟨[10], some 11, [], []⟩] (fun k4 => ?_) ?_
 ·skip
  refine .move (.no rfl) rfl rfl rfl rfl ?_
  refine .bin (.no rfl) rfl rfl rfl rfl rfl rfl ?_
  exact .fin () (.of (.cons rfl (.cons rfl (.cons rfl .nil))) .nil)
 intro _
 refine .cond (t := decide ((IntKind.wrap .i64 (left - (a.length : Int))) < 0)) rfl (fun c0 => ?_) (fun c0 => ?_)
 ·have c0 := of_decide_eq_true c0
  refine .seq ?_
  refine .reg (X := Unit) (fun ζ => .of [(4, .one (.d (.v (.int .i64 (-1)))))] []) [⟨[], some 4, [], []⟩] (fun k5 => ?_) ?_
  ·skip
   refine .assign (.no rfl) rfl rfl rfl rfl ?_
   exact .fin () (.of (.cons rfl .nil) .nil)
  intro _
  refine .ret ?_
  have e6 : (-1) = (szEnvS a left) := by (rw [wrap_le (by omega) (by omega)] at c0; simp only [szEnvS]; rw [if_pos c0])
  have hc7 := eq1 (fun z1 => SV.one (.d (.v (.int .i64 (z1))))) e6
  show _ ∧ _
  exact ⟨.inr rfl, .done ⟨_, [], [], _, .one (c := .d (.v (.int .i64 (szEnvS a left)))) (hc7) .nil, .cons (Reads.d _).gives .nil, nodupB_ok rfl, by simp, (by simp)⟩⟩
 ·have c0 := of_decide_eq_false c0
  refine .skip ?_
  refine .seq ?_
  refine .seq ?_
  refine .reg (X := Unit) (fun ζ => .of [(0, .one (.d (.sl false 69 3 (List.map Env.c69 (a))))), (1, .one (.d (.v (.int .i64 (IntKind.wrap .i64 (left - (a.length : Int))))))), (5, .one (.d (.v (.int .i64 (0)))))] []) [⟨[], some 5, [], []⟩] (fun k8 => ?_) ?_
  ·skip
   refine .assign (.no rfl) rfl rfl rfl rfl ?_
   exact .fin () (.of (.cons rfl (.cons rfl (.cons rfl .nil))) .nil)
  intro _
  refine .block ?_
  refine .loop (X := Nat × Int) (fun ζ => .of [(0, .one (.d (.sl false 69 3 (List.map Env.c69 (a))))), (1, .one (.d (.v (.int .i64 (ζ.2))))), (5, .one (.d (.v (.int .i64 ((ζ.1 : Int))))))] []) (fun ζ => ζ.1 ≤ a.length ∧ 0 ≤ ζ.2 ∧ ζ.2 ≤ 1048576 ∧ ¬ left - a.length < 0 ∧ szF szEnv ζ.2 (a.drop ζ.1) = szF szEnv (left - a.length) a) (fun ζ => a.length - ζ.1) ?_ ?_
  ·skip
   exact .here (0, (left - a.length)) (.of (.cons rfl (.cons (svI (show (IntKind.wrap .i64 (left - (a.length : Int))) = ((left - a.length)) by first | rfl | omega | exact wrap_le (by omega) (by omega) | (rw [wrap_le (by omega) (by omega)]; omega))) (.cons (svI (show (0) = ((0 : Int)) by first | rfl | omega | exact wrap_le (by omega) (by omega) | (rw [wrap_le (by omega) (by omega)]; omega))) .nil))) .nil) (show 0 ≤ a.length ∧ 0 ≤ (left - a.length) ∧ (left - a.length) ≤ 1048576 ∧ ¬ left - a.length < 0 ∧ szF szEnv (left - a.length) (a.drop 0) = szF szEnv (left - a.length) a by (rw [wrap_le (by omega) (by omega)] at c0; exact ⟨by omega, by omega, by omega, c0, by simp⟩))
  ·rintro ⟨j, v⟩ hI
   have hI : j ≤ a.length ∧ 0 ≤ v ∧ v ≤ 1048576 ∧ ¬ left - a.length < 0 ∧ szF szEnv v (a.drop j) = szF szEnv (left - a.length) a := hI
   refine .seq ?_
   refine .seq ?_
   refine .reg (X := Unit) (fun ζ => .of [(0, .one (.d (.sl false 69 3 (List.map Env.c69 (a))))), (1, .one (.d (.v (.int .i64 (v))))), (5, .one (.d (.v (.int .i64 ((j : Int)))))), (15, .one (.d (.v (.bool (decide ((j : Int) < (a.length : Int)))))))] []) [⟨[5], some 12, [], []⟩, ⟨[0], some 13, [], []⟩, ⟨[13], some 14, [], []⟩, ⟨[12, 14], some 15, [], []⟩] (fun k9 => ?_) ?_
   ·skip
    refine .move (.no rfl) rfl rfl rfl rfl ?_
    refine .move (.no rfl) rfl rfl rfl rfl ?_
    refine .len (.no rfl) rfl (z := (a.length : Int)) t26 rfl rfl rfl (.d _ _) (map_len _ _) rfl ?_
    refine .bin (.no rfl) rfl rfl rfl rfl rfl rfl ?_
    exact .fin () (.of (.cons rfl (.cons rfl (.cons rfl (.cons rfl .nil)))) .nil)
   intro _
   refine .cond (t := decide ((j : Int) < (a.length : Int))) rfl (fun c1 => ?_) (fun c1 => ?_)
   ·have c1 := of_decide_eq_true c1
    refine .skip ?_
    refine .seq ?_
    refine .block ?_
    refine .seq ?_
    refine .reg (X := Unit) (fun ζ => .of [(0, .one (.d (.sl false 69 3 (List.map Env.c69 (a))))), (1, .one (.d (.v (.int .i64 (szEnv (a.getD j default) v))))), (5, .one (.d (.v (.int .i64 ((j : Int))))))] []) [⟨[0], some 18, [], []⟩, ⟨[5], some 19, [], []⟩, ⟨[18, 19], some 20, [], []⟩, ⟨[20], some 21, [], []⟩, ⟨[1], some 22, [], []⟩, ⟨[21, 22], some 23, [], []⟩, ⟨[23], some 1, [], []⟩] (fun k10 => ?_) ?_
    ·skip
     refine .move (.no rfl) rfl rfl rfl rfl ?_
     refine .move (.no rfl) rfl rfl rfl rfl ?_
     refine .indexAddr (.no rfl) rfl (j) t26 rfl t69 rfl rfl rfl (.d _ _) rfl rfl rfl (map_get (by omega)) rfl rfl ?_
     refine .load (.no rfl) rfl t69 rfl rfl (.d _) rfl rfl rfl rfl ?_
     refine .move (.no rfl) rfl rfl rfl rfl ?_
     refine .call (.no rfl) rfl [] [] (c_szEnv (a.getD j default) v (by omega)) rfl rfl rfl rfl rfl (.cons (Reads.d _).gives (.cons (Reads.d _).gives (.cons (Reads.d _).gives (.cons (Reads.d _).gives .nil)))) rfl rfl (fun h => absurd rfl h) (.own [23, 0] .nil) (.nil) rfl rfl rfl (by simp) rfl rfl rfl ?_
     refine .assign (.no rfl) rfl rfl rfl rfl ?_
     exact .fin () (.of (.cons rfl (.cons rfl (.cons rfl .nil))) .nil)
    intro _
    refine .seq ?_
    refine .reg (X := Unit) (fun ζ => .of [(0, .one (.d (.sl false 69 3 (List.map Env.c69 (a))))), (1, .one (.d (.v (.int .i64 (szEnv (a.getD j default) v))))), (5, .one (.d (.v (.int .i64 ((j : Int)))))), (25, .one (.d (.v (.bool (decide ((szEnv (a.getD j default) v) < 0))))))] []) [⟨[1], some 24, [], []⟩, ⟨[24], some 25, [], []⟩] (fun k11 => ?_) ?_
    ·skip
     refine .move (.no rfl) rfl rfl rfl rfl ?_
     refine .bin (.no rfl) rfl rfl rfl rfl rfl rfl ?_
     exact .fin () (.of (.cons rfl (.cons rfl (.cons rfl (.cons rfl .nil)))) .nil)
    intro _
    refine .cond (t := decide ((szEnv (a.getD j default) v) < 0)) rfl (fun c2 => ?_) (fun c2 => ?_)
    ·have c2 := of_decide_eq_true c2
     refine .seq ?_
     refine .reg (X := Unit) (fun ζ => .of [(4, .one (.d (.v (.int .i64 (-1)))))] []) [⟨[], some 4, [], []⟩] (fun k12 => ?_) ?_
     ·skip
      refine .assign (.no rfl) rfl rfl rfl rfl ?_
      exact .fin () (.of (.cons rfl .nil) .nil)
     intro _
     refine .ret ?_
     have e13 : (-1) = (szEnvS a left) := by (simp only [szEnvS]; rw [if_neg hI.2.2.2.1, ← hI.2.2.2.2, szF_fail (by omega) c2])
     have hc14 := eq1 (fun z1 => SV.one (.d (.v (.int .i64 (z1))))) e13
     show _ ∧ _
     exact ⟨.inr rfl, .done ⟨_, [], [], _, .one (c := .d (.v (.int .i64 (szEnvS a left)))) (hc14) .nil, .cons (Reads.d _).gives .nil, nodupB_ok rfl, by simp, (by simp)⟩⟩
    ·have c2 := of_decide_eq_false c2
     refine .skip ?_
     refine .reg (X := Unit) (fun ζ => .of [(0, .one (.d (.sl false 69 3 (List.map Env.c69 (a))))), (1, .one (.d (.v (.int .i64 (szEnv (a.getD j default) v))))), (5, .one (.d (.v (.int .i64 (IntKind.wrap .i64 ((j : Int) + 1))))))] []) [⟨[5], some 16, [], []⟩, ⟨[16], some 17, [], []⟩, ⟨[17], some 5, [], []⟩] (fun k15 => ?_) ?_
     ·skip
      refine .move (.no rfl) rfl rfl rfl rfl ?_
      refine .bin (.no rfl) rfl rfl rfl rfl rfl rfl ?_
      refine .assign (.no rfl) rfl rfl rfl rfl ?_
      exact .fin () (.of (.cons rfl (.cons rfl (.cons rfl .nil))) .nil)
     intro _
     exact .here ((j + 1), (szEnv (a.getD j default) v)) (.of (.cons rfl (.cons (svI (show (szEnv (a.getD j default) v) = ((szEnv (a.getD j default) v)) by first | rfl | omega | exact wrap_le (by omega) (by omega) | (rw [wrap_le (by omega) (by omega)]; omega))) (.cons (svI (show (IntKind.wrap .i64 ((j : Int) + 1)) = (((j + 1) : Int)) by first | rfl | omega | exact wrap_le (by omega) (by omega) | (rw [wrap_le (by omega) (by omega)]; omega))) .nil))) .nil) ⟨(show (j + 1) ≤ a.length ∧ 0 ≤ (szEnv (a.getD j default) v) ∧ (szEnv (a.getD j default) v) ≤ 1048576 ∧ ¬ left - a.length < 0 ∧ szF szEnv (szEnv (a.getD j default) v) (a.drop (j + 1)) = szF szEnv (left - a.length) a by (have hx := szEnv_len ⟨hI.2.1, hI.2.2.1⟩ c2; exact ⟨by omega, by omega, by omega, hI.2.2.2.1, by rw [← hI.2.2.2.2]; exact (szF_step (by omega) c2).symm⟩)), (show a.length - (j + 1) < a.length - j by omega)⟩
   ·have c1 := of_decide_eq_false c1
    refine .exit ?_
    refine .seq ?_
    refine .reg (X := Unit) (fun ζ => .of [(4, .one (.d (.v (.int .i64 (v)))))] []) [⟨[1], some 26, [], []⟩, ⟨[26], some 4, [], []⟩] (fun k16 => ?_) ?_
    ·skip
     refine .move (.no rfl) rfl rfl rfl rfl ?_
     refine .assign (.no rfl) rfl rfl rfl rfl ?_
     exact .fin () (.of (.cons rfl .nil) .nil)
    intro _
    refine .ret ?_
    have e17 : (v) = (szEnvS a left) := by (simp only [szEnvS]; rw [if_neg hI.2.2.2.1, ← hI.2.2.2.2, szF_end (by omega)])
    have hc18 := eq1 (fun z1 => SV.one (.d (.v (.int .i64 (z1))))) e17
    show _ ∧ _
    exact ⟨.inr rfl, .done ⟨_, [], [], _, .one (c := .d (.v (.int .i64 (szEnvS a left)))) (hc18) .nil, .cons (Reads.d _).gives .nil, nodupB_ok rfl, by simp, (by simp)⟩⟩
end Go.Proofs

namespace Go.Proofs
open Go Go.Proofs Go.Ev

def i40 : TI := ⟨.sl 77, 1, 24, [.slice none 0 0]⟩
theorem t40 : TyOk Tryz.prog 40 i40 := ⟨Tryz.underlying40, by kernel_rfl⟩
theorem z40 : ZOk Tryz.prog 40 i40 := ⟨t40, rfl⟩
theorem c_toEnvS (a : List Env) (hb : a.length ≤ 1048576) (hx : ∀ x ∈ a, x.ints.length ≤ 1048576 ∧ x.arrs.length ≤ 1048576) : Trip Tryz.prog 12 [(false, 1)] ([.sl false 69 3 (List.map Env.c69 (a))]) [(false, 1)] [.sl true 77 3 (List.map Env.co77 (a))] [] := by
 refine Trip.of Tryz.func12 (by decide) (c := _) rfl rfl (shB_ok rfl) (Nat.le_of_ble_eq_true rfl) rfl (AftOk.nil _) ?_
 refine .sat (t := 0) rfl (fun hs1 => ?_)
 have hs1l : a.length ≤ 9223372036854775807 := hs1.maplen
 refine .seq ?_
 refine .reg (X := Unit) (fun ζ => .of [(0, .one (.d (.sl false 69 3 (List.map Env.c69 (a)))))] []) [⟨[], some 2, [], []⟩] (fun k2 => ?_) ?_
 ·skip
  refine .assign (.no rfl) rfl rfl rfl rfl ?_
  exact .fin () (.of (.cons rfl .nil) .nil)
 intro _
 refine .seq ?_
 refine .reg (X := Nat) (fun ζ => .of [(0, .one (.d (.sl false 69 3 (List.map Env.c69 (a))))), (3, .one (.ref [7] (ζ)))] [([7], (ζ, ζ, .row 77 3 (List.replicate a.length [.v (.bool (false)), .v (.slice none 0 0), .v (.slice none 0 0)])))]) [⟨[0], some 5, [], []⟩, ⟨[5], some 6, [], []⟩, ⟨[6, 6], some 7, [], [[7]]⟩, ⟨[7], some 3, [], []⟩] (fun k3 => ?_) ?_
 ·skip
  refine .move (.no rfl) rfl rfl rfl rfl ?_
  refine .len (.no rfl) rfl (z := (a.length : Int)) t26 rfl rfl rfl (.d _ _) (map_len _ _) rfl ?_
  refine .makeSlice (.no rfl) rfl (n0 := a.length) (els := List.replicate a.length [.v (.bool (false)), .v (.slice none 0 0), .v (.slice none 0 0)]) t40 rfl z77 rfl rfl rfl rfl rfl (by (simp [i77]; omega)) (by omega) rfl rfl ?_
  refine .assign (.no rfl) rfl rfl rfl rfl ?_
  exact .fin (k3 + 1 + 1) (.of (.cons rfl (.cons rfl .nil)) (.cons rfl .nil))
 intro g4
 refine .seq ?_
 refine .seq ?_
 refine .reg (X := Unit) (fun ζ => .of [(0, .one (.d (.sl false 69 3 (List.map Env.c69 (a))))), (3, .one (.ref [7] (g4))), (4, .one (.d (.v (.int .i64 (0)))))] [([7], (g4, g4, .row 77 3 (List.replicate a.length [.v (.bool (false)), .v (.slice none 0 0), .v (.slice none 0 0)])))]) [⟨[], some 4, [], []⟩] (fun k5 => ?_) ?_
 ·skip
  refine .assign (.no rfl) rfl rfl rfl rfl ?_
  exact .fin () (.of (.cons rfl (.cons rfl (.cons rfl .nil))) (.cons rfl .nil))
 intro _
 refine .block ?_
 refine .loop (X := Nat × Nat × Nat) (fun ζ => .of [(0, .one (.d (.sl false 69 3 (List.map Env.c69 (a))))), (3, .one (.ref [7] (ζ.2.1))), (4, .one (.d (.v (.int .i64 ((ζ.1 : Int))))))] [([7], (ζ.2.1, ζ.2.2, .row 77 3 (List.map Env.co77 (fillTo a (Env.mk false [] []) ζ.1))))]) (fun ζ => ζ.1 ≤ a.length) (fun ζ => a.length - ζ.1) ?_ ?_
 ·skip
  refine .rowAs [7] (x := [.v (.bool (false)), .v (.slice none 0 0), .v (.slice none 0 0)]) (x' := [.v (.bool (false)), .sl true 122 2 ([]), .sl true 122 2 ([])]) (els' := List.map Env.co77 (List.replicate a.length (Env.mk false [] []))) rfl rfl (.eq _ (.emp _ _ _ (.emp _ _ _ .nil))) (rep_map _ _ _ rfl) fun q8 => ?_
  exact .here (0, g4, q8) (.of (.cons rfl (.cons rfl (.cons (svI (show (0) = ((0 : Int)) by first | rfl | omega | exact wrap_le (by omega) (by omega) | (rw [wrap_le (by omega) (by omega)]; omega))) .nil))) (.cons (rowE (show List.map Env.co77 (List.replicate a.length (Env.mk false [] [])) = List.map Env.co77 (fillTo a (Env.mk false [] []) 0) by first | rfl | (rw [fillTo_zero]) | (rw [fillTo_step _ _ _ (by omega) rfl]))) .nil)) (show 0 ≤ a.length by omega)
 ·rintro ⟨j, q6, q7⟩ hI
  have hI : j ≤ a.length := hI
  refine .seq ?_
  refine .seq ?_
  refine .reg (X := Unit) (fun ζ => .of [(0, .one (.d (.sl false 69 3 (List.map Env.c69 (a))))), (3, .one (.ref [7] (q6))), (4, .one (.d (.v (.int .i64 ((j : Int)))))), (11, .one (.d (.v (.bool (decide ((j : Int) < (a.length : Int)))))))] [([7], (q6, q7, .row 77 3 (List.map Env.co77 (fillTo a (Env.mk false [] []) j))))]) [⟨[4], some 8, [], []⟩, ⟨[0], some 9, [], []⟩, ⟨[9], some 10, [], []⟩, ⟨[8, 10], some 11, [], []⟩] (fun k9 => ?_) ?_
  ·skip
   refine .move (.no rfl) rfl rfl rfl rfl ?_
   refine .move (.no rfl) rfl rfl rfl rfl ?_
   refine .len (.no rfl) rfl (z := (a.length : Int)) t26 rfl rfl rfl (.d _ _) (map_len _ _) rfl ?_
   refine .bin (.no rfl) rfl rfl rfl rfl rfl rfl ?_
   exact .fin () (.of (.cons rfl (.cons rfl (.cons rfl (.cons rfl .nil)))) (.cons rfl .nil))
  intro _
  refine .cond (t := decide ((j : Int) < (a.length : Int))) rfl (fun c0 => ?_) (fun c0 => ?_)
  ·have c0 := of_decide_eq_true c0
   refine .skip ?_
   refine .seq ?_
   refine .block ?_
   refine .reg (X := Nat) (fun ζ => .of [(0, .one (.d (.sl false 69 3 (List.map Env.c69 (a))))), (3, .one (.ref [7] (q6))), (4, .one (.d (.v (.int .i64 ((j : Int))))))] [([7], (q6, ζ, .row 77 3 (List.map Env.co77 ((fillTo a (Env.mk false [] []) j).set j (a.getD j default)))))]) [⟨[3], some 14, [], []⟩, ⟨[4], some 15, [], []⟩, ⟨[0], some 16, [], []⟩, ⟨[4], some 17, [], []⟩, ⟨[16, 17], some 18, [], []⟩, ⟨[18], some 19, [], []⟩, ⟨[19], some 20, [], [[20, 1], [20, 2]]⟩, ⟨[14, 15], some 21, [[7]], []⟩, ⟨[21, 20], none, [[7], [20, 1], [20, 2]], [[20, 1], [20, 2], [7]]⟩] (fun k10 => ?_) ?_
   ·skip
    refine .move (.no rfl) rfl rfl rfl rfl ?_
    refine .move (.no rfl) rfl rfl rfl rfl ?_
    refine .move (.no rfl) rfl rfl rfl rfl ?_
    refine .move (.no rfl) rfl rfl rfl rfl ?_
    refine .indexAddr (.no rfl) rfl (j) t26 rfl t69 rfl rfl rfl (.d _ _) rfl rfl rfl (map_get (by first | omega | (rw [fillTo_len]; omega))) rfl rfl ?_
    refine .load (.no rfl) rfl t69 rfl rfl (.d _) rfl rfl rfl rfl ?_
    refine .call (.no rfl) rfl [] [] (c_toEnv (a.getD j default) (by exact hx _ (getD_mem (by omega)))) rfl rfl rfl rfl rfl (.cons (Reads.d _).gives (.cons (Reads.d _).gives (.cons (Reads.d _).gives .nil))) rfl rfl (fun h => absurd rfl h) (.own [20, 0] (.own [20, 1] (.own [20, 2] .nil))) (.nil) rfl rfl rfl (by simp) rfl rfl rfl ?_
    refine .indexAddr (.no rfl) rfl (j) t40 rfl t77 rfl rfl rfl (.ref _ _ _ _ _ rfl) rfl rfl rfl (map_get (by first | omega | (rw [fillTo_len]; omega))) rfl rfl ?_
    refine .storeE (.no rfl) rfl (els' := List.map Env.co77 ((fillTo a (Env.mk false [] []) j).set j (a.getD j default))) t77 rfl rfl rfl rfl (map_get (by first | omega | (rw [fillTo_len]; omega))) rfl rfl (.cons _ _ _ _ _ _ (.d _) (.cons _ _ _ _ _ _ (.ref _ _ _ _ _ _ rfl) (.cons _ _ _ _ _ _ (.ref _ _ _ _ _ _ rfl) .nil))) rfl (Nat.le_of_ble_eq_true rfl) (set_map _ _ _ (a.getD j default) _ rfl) rfl rfl ?_
    exact .fin (k10 + 1 + 1 + 1 + 1 + 1 + 1 + 1 + 1) (.of (.cons rfl (.cons rfl (.cons rfl .nil))) (.cons rfl .nil))
   intro g11
   refine .reg (X := Unit) (fun ζ => .of [(0, .one (.d (.sl false 69 3 (List.map Env.c69 (a))))), (3, .one (.ref [7] (q6))), (4, .one (.d (.v (.int .i64 (IntKind.wrap .i64 ((j : Int) + 1))))))] [([7], (q6, g11, .row 77 3 (List.map Env.co77 ((fillTo a (Env.mk false [] []) j).set j (a.getD j default)))))]) [⟨[4], some 12, [], []⟩, ⟨[12], some 13, [], []⟩, ⟨[13], some 4, [], []⟩] (fun k12 => ?_) ?_
   ·skip
    refine .move (.no rfl) rfl rfl rfl rfl ?_
    refine .bin (.no rfl) rfl rfl rfl rfl rfl rfl ?_
    refine .assign (.no rfl) rfl rfl rfl rfl ?_
    exact .fin () (.of (.cons rfl (.cons rfl (.cons rfl .nil))) (.cons rfl .nil))
   intro _
   exact .here ((j + 1), q6, g11) (.of (.cons rfl (.cons rfl (.cons (svI (show (IntKind.wrap .i64 ((j : Int) + 1)) = (((j + 1) : Int)) by first | rfl | omega | exact wrap_le (by omega) (by omega) | (rw [wrap_le (by omega) (by omega)]; omega))) .nil))) (.cons (rowE (show List.map Env.co77 ((fillTo a (Env.mk false [] []) j).set j (a.getD j default)) = List.map Env.co77 (fillTo a (Env.mk false [] []) (j + 1)) by first | rfl | (rw [fillTo_zero]) | (rw [fillTo_step _ _ _ (by omega) rfl]))) .nil)) ⟨(show (j + 1) ≤ a.length by omega), (show a.length - (j + 1) < a.length - j by omega)⟩
  ·have c0 := of_decide_eq_false c0
   refine .exit ?_
   refine .seq ?_
   refine .reg (X := Unit) (fun ζ => .of [(2, .one (.ref [7] (q6)))] [([7], (q6, q7, .row 77 3 (List.map Env.co77 (fillTo a (Env.mk false [] []) j))))]) [⟨[3], some 22, [], []⟩, ⟨[22], some 2, [], []⟩] (fun k13 => ?_) ?_
   ·skip
    refine .move (.no rfl) rfl rfl rfl rfl ?_
    refine .assign (.no rfl) rfl rfl rfl rfl ?_
    exact .fin () (.of (.cons rfl .nil) (.cons rfl .nil))
   intro _
   refine .ret ?_
   have e14 : (fillTo a (Env.mk false [] []) j) = (a) := by (exact fillTo_all _ _ (by omega))
   show _ ∧ _
   exact ⟨.inr rfl, .done ⟨_, [], [([7], (q6, q7, .row 77 3 (List.map Env.co77 (a))))], _, .one rfl .nil, .cons (.ref (.head _)) .nil, nodupB_ok rfl, by simp, (AllH.get (.cons (rowE (congrArg (List.map Env.co77) e14)) .nil))⟩⟩
end Go.Proofs

namespace Go.Proofs
open Go Go.Proofs Go.Ev

theorem c_eqEnvS (a : List Env) (b : List Env) : Trip Tryz.prog 16 [(false, 1), (false, 1)] ([.sl false 77 3 (List.map Env.c77 (a))] ++ [.sl false 77 3 (List.map Env.c77 (b))]) [(false, 1)] [.v (.bool (all2 Env.same a b))] [] := by
 refine Trip.of Tryz.func16 (by decide) (c := _) rfl rfl (shB_ok rfl) (Nat.le_of_ble_eq_true rfl) rfl (AftOk.nil _) ?_
 refine .sat (t := 0) rfl (fun hs1 => ?_)
 have hs1l : a.length ≤ 9223372036854775807 := hs1.maplen
 refine .sat (t := 1) rfl (fun hs2 => ?_)
 have hs2l : b.length ≤ 9223372036854775807 := hs2.maplen
 refine .seq ?_
 refine .reg (X := Unit) (fun ζ => .of [(0, .one (.d (.sl false 77 3 (List.map Env.c77 (a))))), (1, .one (.d (.sl false 77 3 (List.map Env.c77 (b)))))] []) [⟨[], some 4, [], []⟩] (fun k3 => ?_) ?_
 ·skip
  refine .assign (.no rfl) rfl rfl rfl rfl ?_
  exact .fin () (.of (.cons rfl (.cons rfl .nil)) .nil)
 intro _
 refine .seq ?_
 refine .seq ?_
 refine .reg (X := Unit) (fun ζ => .of [(0, .one (.d (.sl false 77 3 (List.map Env.c77 (a))))), (1, .one (.d (.sl false 77 3 (List.map Env.c77 (b))))), (10, .one (.d (.v (.bool ((a.length : Int) != (b.length : Int))))))] []) [⟨[0], some 6, [], []⟩, ⟨[6], some 7, [], []⟩, ⟨[1], some 8, [], []⟩, ⟨[8], some 9, [], []⟩, ⟨[7, 9], some 10, [], []⟩] (fun k4 => ?_) ?_
 ·skip
  refine .move (.no rfl) rfl rfl rfl rfl ?_
  refine .len (.no rfl) rfl (z := (a.length : Int)) t40 rfl rfl rfl (.d _ _) (map_len _ _) rfl ?_
  refine .move (.no rfl) rfl rfl rfl rfl ?_
  refine .len (.no rfl) rfl (z := (b.length : Int)) t40 rfl rfl rfl (.d _ _) (map_len _ _) rfl ?_
  refine .bin (.no rfl) rfl rfl rfl rfl rfl rfl ?_
  exact .fin () (.of (.cons rfl (.cons rfl (.cons rfl .nil))) .nil)
 intro _
 refine .cond (t := (a.length : Int) != (b.length : Int)) rfl (fun c0 => ?_) (fun c0 => ?_)
 ·have c0 := (by simpa using c0 : ¬ ((a.length : Int) = (b.length : Int)))
  refine .seq ?_
  refine .reg (X := Unit) (fun ζ => .of [(4, .one (.d (.v (.bool (false)))))] []) [⟨[], some 4, [], []⟩] (fun k5 => ?_) ?_
  ·skip
   refine .assign (.no rfl) rfl rfl rfl rfl ?_
   exact .fin () (.of (.cons rfl .nil) .nil)
  intro _
  refine .ret ?_
  have e6 : (false) = (all2 Env.same a b) := by exact (all2_ne _ c0).symm
  have hc7 := eq1 (fun z1 => SV.one (.d (.v (.bool (z1))))) e6
  show _ ∧ _
  exact ⟨.inr rfl, .done ⟨_, [], [], _, .one (c := .d (.v (.bool (all2 Env.same a b)))) (hc7) .nil, .cons (Reads.d _).gives .nil, nodupB_ok rfl, by simp, (by simp)⟩⟩
 ·have c0 := (by simpa using c0 : (a.length : Int) = (b.length : Int))
  refine .skip ?_
  refine .seq ?_
  refine .seq ?_
  refine .reg (X := Unit) (fun ζ => .of [(0, .one (.d (.sl false 77 3 (List.map Env.c77 (a))))), (1, .one (.d (.sl false 77 3 (List.map Env.c77 (b))))), (5, .one (.d (.v (.int .i64 (0)))))] []) [⟨[], some 5, [], []⟩] (fun k8 => ?_) ?_
  ·skip
   refine .assign (.no rfl) rfl rfl rfl rfl ?_
   exact .fin () (.of (.cons rfl (.cons rfl (.cons rfl .nil))) .nil)
  intro _
  refine .block ?_
  refine .loop (X := Nat) (fun ζ => .of [(0, .one (.d (.sl false 77 3 (List.map Env.c77 (a))))), (1, .one (.d (.sl false 77 3 (List.map Env.c77 (b))))), (5, .one (.d (.v (.int .i64 ((ζ : Int))))))] []) (fun ζ => ζ ≤ a.length ∧ a.length = b.length ∧ allTo ζ (fun i => Env.same (a.getD i default) (b.getD i default)) = true) (fun ζ => a.length - ζ) ?_ ?_
  ·skip
   exact .here 0 (.of (.cons rfl (.cons rfl (.cons (svI (show (0) = ((0 : Int)) by first | rfl | omega | exact wrap_le (by omega) (by omega) | (rw [wrap_le (by omega) (by omega)]; omega))) .nil))) .nil) (show 0 ≤ a.length ∧ a.length = b.length ∧ allTo 0 (fun i => Env.same (a.getD i default) (b.getD i default)) = true by exact ⟨by omega, by omega, rfl⟩)
  ·rintro j hI
   have hI : j ≤ a.length ∧ a.length = b.length ∧ allTo j (fun i => Env.same (a.getD i default) (b.getD i default)) = true := hI
   refine .seq ?_
   refine .seq ?_
   refine .reg (X := Unit) (fun ζ => .of [(0, .one (.d (.sl false 77 3 (List.map Env.c77 (a))))), (1, .one (.d (.sl false 77 3 (List.map Env.c77 (b))))), (5, .one (.d (.v (.int .i64 ((j : Int)))))), (14, .one (.d (.v (.bool (decide ((j : Int) < (a.length : Int)))))))] []) [⟨[5], some 11, [], []⟩, ⟨[0], some 12, [], []⟩, ⟨[12], some 13, [], []⟩, ⟨[11, 13], some 14, [], []⟩] (fun k9 => ?_) ?_
   ·skip
    refine .move (.no rfl) rfl rfl rfl rfl ?_
    refine .move (.no rfl) rfl rfl rfl rfl ?_
    refine .len (.no rfl) rfl (z := (a.length : Int)) t40 rfl rfl rfl (.d _ _) (map_len _ _) rfl ?_
    refine .bin (.no rfl) rfl rfl rfl rfl rfl rfl ?_
    exact .fin () (.of (.cons rfl (.cons rfl (.cons rfl (.cons rfl .nil)))) .nil)
   intro _
   refine .cond (t := decide ((j : Int) < (a.length : Int))) rfl (fun c1 => ?_) (fun c1 => ?_)
   ·have c1 := of_decide_eq_true c1
    refine .skip ?_
    refine .seq ?_
    refine .block ?_
    refine .seq ?_
    refine .regD (X := Unit) (by kernel_rfl) (fun ζ => .of [(0, .one (.d (.sl false 77 3 (List.map Env.c77 (a))))), (1, .one (.d (.sl false 77 3 (List.map Env.c77 (b))))), (5, .one (.d (.v (.int .i64 ((j : Int)))))), (26, .one (.d (.v (.bool (!(Env.same (a.getD j default) (b.getD j default)))))))] []) [⟨[0], some 17, [], []⟩, ⟨[5], some 18, [], []⟩, ⟨[17, 18], some 19, [], []⟩, ⟨[19], some 20, [], []⟩, ⟨[1], some 21, [], []⟩, ⟨[5], some 22, [], []⟩, ⟨[21, 22], some 23, [], []⟩, ⟨[23], some 24, [], []⟩, ⟨[20, 24], some 25, [], []⟩, ⟨[25], some 26, [], []⟩] (by kernel_rfl) (fun k10 => ?_) ?_
    ·skip
     refine .move (.no rfl) rfl rfl rfl rfl ?_
     refine .move (.no rfl) rfl rfl rfl rfl ?_
     refine .indexAddr (.no rfl) rfl (j) t40 rfl t77 rfl rfl rfl (.d _ _) rfl rfl rfl (map_get (by omega)) rfl rfl ?_
     refine .load (.no rfl) rfl t77 rfl rfl (.d _) rfl rfl rfl rfl ?_
     refine .move (.no rfl) rfl rfl rfl rfl ?_
     refine .move (.no rfl) rfl rfl rfl rfl ?_
     refine .indexAddr (.no rfl) rfl (j) t40 rfl t77 rfl rfl rfl (.d _ _) rfl rfl rfl (map_get (by omega)) rfl rfl ?_
     refine .load (.no rfl) rfl t77 rfl rfl (.d _) rfl rfl rfl rfl ?_
     refine .call (.no rfl) rfl [] [] (c_eqEnv (a.getD j default) (b.getD j default)) rfl rfl rfl rfl rfl (.cons (Reads.d _).gives (.cons (Reads.d _).gives (.cons (Reads.d _).gives (.cons (Reads.d _).gives (.cons (Reads.d _).gives (.cons (Reads.d _).gives .nil)))))) rfl rfl (fun h => absurd rfl h) (.own [25, 0] .nil) (.nil) rfl rfl rfl (by simp) rfl rfl rfl ?_
     refine .un (.no rfl) rfl rfl rfl rfl rfl ?_
     exact .fin () (.of (.cons rfl (.cons rfl (.cons rfl (.cons rfl .nil)))) .nil)
    intro _
    refine .cond (t := !(Env.same (a.getD j default) (b.getD j default))) rfl (fun c2 => ?_) (fun c2 => ?_)
    ·have c2 := c2
     try simp only [Bool.or_eq_true, Bool.or_eq_false_iff, Bool.and_eq_true, Bool.and_eq_false_iff, decide_eq_true_eq, decide_eq_false_iff_not, Bool.not_eq_true', Bool.not_eq_false', bne_iff_ne, beq_iff_eq, bne_eq_false_iff_eq, beq_eq_false_iff_ne, ne_eq, Bool.not_eq_eq_eq_not, Bool.not_true, Bool.not_false] at c2
     refine .seq ?_
     refine .reg (X := Unit) (fun ζ => .of [(4, .one (.d (.v (.bool (false)))))] []) [⟨[], some 4, [], []⟩] (fun k11 => ?_) ?_
     ·skip
      refine .assign (.no rfl) rfl rfl rfl rfl ?_
      exact .fin () (.of (.cons rfl .nil) .nil)
     intro _
     refine .ret ?_
     have e12 : (false) = (all2 Env.same a b) := by exact (all2_fail _ (j := j) (by omega) (by simpa [] using c2)).symm
     have hc13 := eq1 (fun z1 => SV.one (.d (.v (.bool (z1))))) e12
     show _ ∧ _
     exact ⟨.inr rfl, .done ⟨_, [], [], _, .one (c := .d (.v (.bool (all2 Env.same a b)))) (hc13) .nil, .cons (Reads.d _).gives .nil, nodupB_ok rfl, by simp, (by simp)⟩⟩
    ·have c2 := c2
     try simp only [Bool.or_eq_true, Bool.or_eq_false_iff, Bool.and_eq_true, Bool.and_eq_false_iff, decide_eq_true_eq, decide_eq_false_iff_not, Bool.not_eq_true', Bool.not_eq_false', bne_iff_ne, beq_iff_eq, bne_eq_false_iff_eq, beq_eq_false_iff_ne, ne_eq, Bool.not_eq_eq_eq_not, Bool.not_true, Bool.not_false] at c2
     refine .skip ?_
     refine .reg (X := Unit) (fun ζ => .of [(0, .one (.d (.sl false 77 3 (List.map Env.c77 (a))))), (1, .one (.d (.sl false 77 3 (List.map Env.c77 (b))))), (5, .one (.d (.v (.int .i64 (IntKind.wrap .i64 ((j : Int) + 1))))))] []) [⟨[5], some 15, [], []⟩, ⟨[15], some 16, [], []⟩, ⟨[16], some 5, [], []⟩] (fun k14 => ?_) ?_
     ·skip
      refine .move (.no rfl) rfl rfl rfl rfl ?_
      refine .bin (.no rfl) rfl rfl rfl rfl rfl rfl ?_
      refine .assign (.no rfl) rfl rfl rfl rfl ?_
      exact .fin () (.of (.cons rfl (.cons rfl (.cons rfl .nil))) .nil)
     intro _
     exact .here (j + 1) (.of (.cons rfl (.cons rfl (.cons (svI (show (IntKind.wrap .i64 ((j : Int) + 1)) = (((j + 1) : Int)) by first | rfl | omega | exact wrap_le (by omega) (by omega) | (rw [wrap_le (by omega) (by omega)]; omega))) .nil))) .nil) ⟨(show (j + 1) ≤ a.length ∧ a.length = b.length ∧ allTo (j + 1) (fun i => Env.same (a.getD i default) (b.getD i default)) = true by exact ⟨by omega, by omega, allTo_step hI.2.2 (by simpa [] using c2)⟩), (show a.length - (j + 1) < a.length - j by omega)⟩
   ·have c1 := of_decide_eq_false c1
    refine .exit ?_
    refine .seq ?_
    refine .reg (X := Unit) (fun ζ => .of [(4, .one (.d (.v (.bool (true)))))] []) [⟨[], some 4, [], []⟩] (fun k15 => ?_) ?_
    ·skip
     refine .assign (.no rfl) rfl rfl rfl rfl ?_
     exact .fin () (.of (.cons rfl .nil) .nil)
    intro _
    refine .ret ?_
    have e16 : (true) = (all2 Env.same a b) := by (have hj : j = a.length := (by omega); subst hj; exact (all2_done _ hI.2.1 hI.2.2).symm)
    have hc17 := eq1 (fun z1 => SV.one (.d (.v (.bool (z1))))) e16
    show _ ∧ _
    exact ⟨.inr rfl, .done ⟨_, [], [], _, .one (c := .d (.v (.bool (all2 Env.same a b)))) (hc17) .nil, .cons (Reads.d _).gives .nil, nodupB_ok rfl, by simp, (by simp)⟩⟩
end Go.Proofs

namespace Go.Proofs
open Go Go.Proofs Go.Ev

def i124 : TI := ⟨.int .u64, 1, 8, [.int .u64 0]⟩
theorem t124 : TyOk Tryz.prog 124 i124 := ⟨Tryz.underlying124, by kernel_rfl⟩
theorem z124 : ZOk Tryz.prog 124 i124 := ⟨t124, rfl⟩
def i160 : TI := ⟨.fn, 1, 8, [.nilFunc]⟩
theorem t160 : TyOk Tryz.prog 160 i160 := ⟨⟨_, _, _, Tryz.underlying160⟩, by kernel_rfl⟩
theorem z160 : ZOk Tryz.prog 160 i160 := ⟨t160, rfl⟩
theorem c_l8Size (d : Decl) : Trip Tryz.prog 79 [(true, 3)] (Decl.c38 d) [(false, 1)] [.v (.int .i64 (leavesOf d))] [] := by
 refine Trip.of Tryz.func79 (by decide) (c := _) rfl rfl (shB_ok rfl) (Nat.le_of_ble_eq_true rfl) rfl (AftOk.nil _) ?_
 refine .satA (t := 0) (i := 0) rfl rfl (fun hs1 => ?_)
 have hs1l : d.vars.length ≤ 9223372036854775807 := hs1.maplen
 refine .satA (t := 0) (i := 1) rfl rfl (fun hs2 => ?_)
 have hs2l : d.flags.length ≤ 9223372036854775807 := hs2.maplen
 refine .satA (t := 0) (i := 2) rfl rfl (fun hs3 => ?_)
 have hs3l : d.arrays.length ≤ 9223372036854775807 := hs3.maplen
 refine .seq ?_
 refine .reg (X := Nat) (fun ζ => .of [(1, .one (.ptr [1] (ζ) 0))] [([1], (ζ, ζ, .box [.d (.sl false 9 1 (List.map strc (d.vars))), .d (.sl false 9 1 (List.map strc (d.flags))), .d (.sl false 119 2 (List.map Arr.c (d.arrays)))]))]) [⟨[0], some 1, [], [[1]]⟩, ⟨[], some 2, [], []⟩] (fun k4 => ?_) ?_
 ·skip
  refine .box (.no rfl) rfl rfl rfl rfl rfl ?_
  refine .assign (.no rfl) rfl rfl rfl rfl ?_
  exact .fin k4 (.of (.cons rfl .nil) (.cons rfl .nil))
 intro g5
 refine .seq ?_
 refine .reg (X := Unit) (fun ζ => .of [(2, .one (.d (.v (.int .i64 (IntKind.wrap .i64 (1 * 2 ^ (min ((d.flags.length : Int)).toNat (IntKind.bits .i64))))))))] []) [⟨[1], some 3, [], []⟩, ⟨[3], some 4, [[1]], []⟩, ⟨[4], some 5, [], []⟩, ⟨[5], some 6, [], []⟩, ⟨[6], some 7, [], []⟩, ⟨[7], some 2, [], []⟩] (fun k6 => ?_) ?_
 ·skip
  refine .fieldAddrP (.no rfl) rfl t38 rfl rfl t22 rfl rfl rfl rfl ?_
  refine .load (.no rfl) rfl t22 rfl rfl (.ptr _ _ _ _ _ rfl) rfl rfl rfl rfl ?_
  refine .len (.no rfl) rfl (z := (d.flags.length : Int)) t22 rfl rfl rfl (.d _ _) (map_len _ _) rfl ?_
  refine .conv (.no rfl) rfl t3 t124 rfl rfl rfl rfl (wrap_u64 (by omega) (by omega)) rfl ?_
  refine .shl (.no rfl) rfl rfl rfl rfl (by omega) rfl rfl ?_
  refine .assign (.no rfl) rfl rfl rfl rfl ?_
  exact .fin () (.of (.cons rfl .nil) .nil)
 intro _
 refine .ret ?_
 have e7 : (IntKind.wrap .i64 (1 * 2 ^ (min ((d.flags.length : Int)).toNat (IntKind.bits .i64)))) = (leavesOf d) := by rfl
 have hc8 := eq1 (fun z1 => SV.one (.d (.v (.int .i64 (z1))))) e7
 show _ ∧ _
 exact ⟨.inr rfl, .done ⟨_, [], [], _, .one (c := .d (.v (.int .i64 (leavesOf d)))) (hc8) .nil, .cons (Reads.d _).gives .nil, nodupB_ok rfl, by simp, (by simp)⟩⟩
theorem c_leaves (d : Decl) : Trip Tryz.prog 120 [(true, 3)] (Decl.c38 d) [(false, 1)] [.v (.int .i64 (leavesOf d))] [] := by
 refine Trip.of Tryz.func120 (by decide) (c := _) rfl rfl (shB_ok rfl) (Nat.le_of_ble_eq_true rfl) rfl (AftOk.nil _) ?_
 refine .satA (t := 0) (i := 0) rfl rfl (fun hs1 => ?_)
 have hs1l : d.vars.length ≤ 9223372036854775807 := hs1.maplen
 refine .satA (t := 0) (i := 1) rfl rfl (fun hs2 => ?_)
 have hs2l : d.flags.length ≤ 9223372036854775807 := hs2.maplen
 refine .satA (t := 0) (i := 2) rfl rfl (fun hs3 => ?_)
 have hs3l : d.arrays.length ≤ 9223372036854775807 := hs3.maplen
 refine .seq ?_
 refine .reg (X := Nat) (fun ζ => .of [(1, .one (.ptr [1] (ζ) 0))] [([1], (ζ, ζ, .box [.d (.sl false 9 1 (List.map strc (d.vars))), .d (.sl false 9 1 (List.map strc (d.flags))), .d (.sl false 119 2 (List.map Arr.c (d.arrays)))]))]) [⟨[0], some 1, [], [[1]]⟩, ⟨[], some 2, [], []⟩] (fun k4 => ?_) ?_
 ·skip
  refine .box (.no rfl) rfl rfl rfl rfl rfl ?_
  refine .assign (.no rfl) rfl rfl rfl rfl ?_
  exact .fin k4 (.of (.cons rfl .nil) (.cons rfl .nil))
 intro g5
 refine .seq ?_
 refine .reg (X := Unit) (fun ζ => .of [(2, .one (.d (.v (.int .i64 (IntKind.wrap .i64 (1 * 2 ^ (min ((d.flags.length : Int)).toNat (IntKind.bits .i64))))))))] []) [⟨[1], some 3, [], []⟩, ⟨[3], some 4, [[1]], []⟩, ⟨[4], some 5, [], []⟩, ⟨[5], some 6, [], []⟩, ⟨[6], some 2, [], []⟩] (fun k6 => ?_) ?_
 ·skip
  refine .fieldAddrP (.no rfl) rfl t38 rfl rfl t22 rfl rfl rfl rfl ?_
  refine .load (.no rfl) rfl t22 rfl rfl (.ptr _ _ _ _ _ rfl) rfl rfl rfl rfl ?_
  refine .len (.no rfl) rfl (z := (d.flags.length : Int)) t22 rfl rfl rfl (.d _ _) (map_len _ _) rfl ?_
  refine .shl (.no rfl) rfl rfl rfl rfl (by omega) rfl rfl ?_
  refine .assign (.no rfl) rfl rfl rfl rfl ?_
  exact .fin () (.of (.cons rfl .nil) .nil)
 intro _
 refine .ret ?_
 have e7 : (IntKind.wrap .i64 (1 * 2 ^ (min ((d.flags.length : Int)).toNat (IntKind.bits .i64)))) = (leavesOf d) := by rfl
 have hc8 := eq1 (fun z1 => SV.one (.d (.v (.int .i64 (z1))))) e7
 show _ ∧ _
 exact ⟨.inr rfl, .done ⟨_, [], [], _, .one (c := .d (.v (.int .i64 (leavesOf d)))) (hc8) .nil, .cons (Reads.d _).gives .nil, nodupB_ok rfl, by simp, (by simp)⟩⟩
theorem c_sizeE (l : List Env) : Trip Tryz.prog 119 [(false, 1)] ([.sl false 77 3 (List.map Env.c77 (l))]) [(false, 1)] [.v (.int .i64 ((l.length : Int)))] [] := by
 refine Trip.of Tryz.func119 (by decide) (c := _) rfl rfl (shB_ok rfl) (Nat.le_of_ble_eq_true rfl) rfl (AftOk.nil _) ?_
 refine .sat (t := 0) rfl (fun hs1 => ?_)
 have hs1l : l.length ≤ 9223372036854775807 := hs1.maplen
 refine .seq ?_
 refine .reg (X := Unit) (fun ζ => .of [(0, .one (.d (.sl false 77 3 (List.map Env.c77 (l)))))] []) [⟨[], some 2, [], []⟩] (fun k2 => ?_) ?_
 ·skip
  refine .assign (.no rfl) rfl rfl rfl rfl ?_
  exact .fin () (.of (.cons rfl .nil) .nil)
 intro _
 refine .seq ?_
 refine .reg (X := Unit) (fun ζ => .of [(2, .one (.d (.v (.int .i64 ((l.length : Int))))))] []) [⟨[0], some 3, [], []⟩, ⟨[3], some 4, [], []⟩, ⟨[4], some 2, [], []⟩] (fun k3 => ?_) ?_
 ·skip
  refine .move (.no rfl) rfl rfl rfl rfl ?_
  refine .len (.no rfl) rfl (z := (l.length : Int)) t40 rfl rfl rfl (.d _ _) (map_len _ _) rfl ?_
  refine .assign (.no rfl) rfl rfl rfl rfl ?_
  exact .fin () (.of (.cons rfl .nil) .nil)
 intro _
 refine .ret ?_
 show _ ∧ _
 exact ⟨.inr rfl, .done ⟨_, [], [], _, .one rfl .nil, .cons (Reads.d _).gives .nil, nodupB_ok rfl, by simp, (by simp)⟩⟩
theorem c_IndexFuncE (l : List Env) (F_p : FuncId) (first_p : List (Bool × List D)) (caps_p : List D) (p : Env → Bool) (h_p : ∀ (x0 : Env), FnTrip Tryz.prog F_p first_p caps_p [(true, 3)] (Env.c77 x0) [(false, 1)] [.v (.bool (p x0))]) : Trip Tryz.prog 167 [(false, 1), (false, 1)] ([.sl false 77 3 (List.map Env.c77 (l))] ++ [.fn F_p first_p caps_p]) [(false, 1)] [.v (.int .i64 (idx p l))] [] := by
 refine Trip.of Tryz.func167 (by decide) (c := _) rfl rfl (shB_ok rfl) (Nat.le_of_ble_eq_true rfl) rfl (AftOk.nil _) ?_
 refine .sat (t := 0) rfl (fun hs1 => ?_)
 have hs1l : l.length ≤ 9223372036854775807 := hs1.maplen
 refine .seq ?_
 refine .reg (X := Unit) (fun ζ => .of [(0, .one (.d (.sl false 77 3 (List.map Env.c77 (l))))), (1, .one (.d (.fn F_p first_p caps_p)))] []) [⟨[], some 4, [], []⟩] (fun k2 => ?_) ?_
 ·skip
  refine .assign (.no rfl) rfl rfl rfl rfl ?_
  exact .fin () (.of (.cons rfl (.cons rfl .nil)) .nil)
 intro _
 refine .seq ?_
 refine .seq ?_
 refine .reg (X := Unit) (fun ζ => .of [(0, .one (.d (.sl false 77 3 (List.map Env.c77 (l))))), (1, .one (.d (.fn F_p first_p caps_p))), (7, .one (.d (.v (.int .i64 ((l.length : Int)))))), (8, .one (.d (.v (.int .i64 (0)))))] []) [⟨[0], some 6, [], []⟩, ⟨[6], some 7, [], []⟩, ⟨[], some 8, [], []⟩] (fun k3 => ?_) ?_
 ·skip
  refine .move (.no rfl) rfl rfl rfl rfl ?_
  refine .len (.no rfl) rfl (z := (l.length : Int)) t40 rfl rfl rfl (.d _ _) (map_len _ _) rfl ?_
  refine .move (.no rfl) rfl rfl rfl rfl ?_
  exact .fin () (.of (.cons rfl (.cons rfl (.cons rfl (.cons rfl .nil)))) .nil)
 intro _
 refine .block ?_
 refine .loop (X := Nat) (fun ζ => .of [(0, .one (.d (.sl false 77 3 (List.map Env.c77 (l))))), (1, .one (.d (.fn F_p first_p caps_p))), (7, .one (.d (.v (.int .i64 ((l.length : Int)))))), (8, .one (.d (.v (.int .i64 ((ζ : Int))))))] []) (fun ζ => ζ ≤ l.length ∧ allTo ζ (fun i => !p (l.getD i default)) = true) (fun ζ => l.length - ζ) ?_ ?_
 ·skip
  exact .here 0 (.of (.cons rfl (.cons rfl (.cons rfl (.cons (svI (show (0) = ((0 : Int)) by first | rfl | omega | exact wrap_le (by omega) (by omega) | (rw [wrap_le (by omega) (by omega)]; omega))) .nil)))) .nil) (show 0 ≤ l.length ∧ allTo 0 (fun i => !p (l.getD i default)) = true by exact ⟨by omega, rfl⟩)
 ·rintro j hI
  have hI : j ≤ l.length ∧ allTo j (fun i => !p (l.getD i default)) = true := hI
  refine .seq ?_
  refine .reg (X := Unit) (fun ζ => .of [(0, .one (.d (.sl false 77 3 (List.map Env.c77 (l))))), (1, .one (.d (.fn F_p first_p caps_p))), (7, .one (.d (.v (.int .i64 ((l.length : Int)))))), (8, .one (.d (.v (.int .i64 ((j : Int)))))), (9, .one (.d (.v (.bool (decide ((j : Int) < (l.length : Int)))))))] []) [⟨[8, 7], some 9, [], []⟩] (fun k4 => ?_) ?_
  ·skip
   refine .bin (.no rfl) rfl rfl rfl rfl rfl rfl ?_
   exact .fin () (.of (.cons rfl (.cons rfl (.cons rfl (.cons rfl (.cons rfl .nil))))) .nil)
  intro _
  refine .seq ?_
  refine .cond (t := decide ((j : Int) < (l.length : Int))) rfl (fun c0 => ?_) (fun c0 => ?_)
  ·have c0 := of_decide_eq_true c0
   refine .skip ?_
   refine .seq ?_
   refine .block ?_
   refine .seq ?_
   refine .reg (X := Unit) (fun ζ => .of [(0, .one (.d (.sl false 77 3 (List.map Env.c77 (l))))), (1, .one (.d (.fn F_p first_p caps_p))), (5, .one (.d (.v (.int .i64 ((j : Int)))))), (7, .one (.d (.v (.int .i64 ((l.length : Int)))))), (8, .one (.d (.v (.int .i64 ((j : Int))))))] []) [⟨[8], some 10, [], []⟩, ⟨[10], some 5, [], []⟩] (fun k5 => ?_) ?_
   ·skip
    refine .move (.no rfl) rfl rfl rfl rfl ?_
    refine .assign (.no rfl) rfl rfl rfl rfl ?_
    exact .fin () (.of (.cons rfl (.cons rfl (.cons rfl (.cons rfl (.cons rfl .nil))))) .nil)
   intro _
   refine .seq ?_
   refine .reg (X := Unit) (fun ζ => .of [(0, .one (.d (.sl false 77 3 (List.map Env.c77 (l))))), (1, .one (.d (.fn F_p first_p caps_p))), (5, .one (.d (.v (.int .i64 ((j : Int)))))), (7, .one (.d (.v (.int .i64 ((l.length : Int)))))), (8, .one (.d (.v (.int .i64 ((j : Int)))))), (16, .one (.d (.v (.bool (p (l.getD j default))))))] []) [⟨[1], some 11, [], []⟩, ⟨[0], some 12, [], []⟩, ⟨[5], some 13, [], []⟩, ⟨[12, 13], some 14, [], []⟩, ⟨[14], some 15, [], []⟩, ⟨[11, 15], some 16, [], []⟩] (fun k6 => ?_) ?_
   ·skip
    refine .move (.no rfl) rfl rfl rfl rfl ?_
    refine .move (.no rfl) rfl rfl rfl rfl ?_
    refine .move (.no rfl) rfl rfl rfl rfl ?_
    refine .indexAddr (.no rfl) rfl (j) t40 rfl t77 rfl rfl rfl (.d _ _) rfl rfl rfl (map_get (by omega)) rfl rfl ?_
    refine .load (.no rfl) rfl t77 rfl rfl (.d _) rfl rfl rfl rfl ?_
    refine .callF (.no rfl) rfl (ds := [.v (.bool ((l.getD j default).live)), .sl false 122 2 (List.map Iv.c ((l.getD j default).ints)), .sl false 122 2 (List.map Iv.c ((l.getD j default).arrs))]) (h_p (l.getD j default)) rfl rfl rfl rfl (.own [16, 0] .nil) rfl rfl rfl rfl rfl rfl ?_
    exact .fin () (.of (.cons rfl (.cons rfl (.cons rfl (.cons rfl (.cons rfl (.cons rfl .nil)))))) .nil)
   intro _
   refine .cond (t := p (l.getD j default)) rfl (fun c1 => ?_) (fun c1 => ?_)
   ·have c1 := c1
    refine .seq ?_
    refine .reg (X := Unit) (fun ζ => .of [(4, .one (.d (.v (.int .i64 ((j : Int))))))] []) [⟨[5], some 17, [], []⟩, ⟨[17], some 4, [], []⟩] (fun k7 => ?_) ?_
    ·skip
     refine .move (.no rfl) rfl rfl rfl rfl ?_
     refine .assign (.no rfl) rfl rfl rfl rfl ?_
     exact .fin () (.of (.cons rfl .nil) .nil)
    intro _
    refine .ret ?_
    have e8 : ((j : Int)) = (idx p l) := by exact (idx_found (j := j) (by omega) hI.2 (by simpa using c1)).symm
    have hc9 := eq1 (fun z1 => SV.one (.d (.v (.int .i64 (z1))))) e8
    show _ ∧ _
    exact ⟨.inr rfl, .done ⟨_, [], [], _, .one (c := .d (.v (.int .i64 (idx p l)))) (hc9) .nil, .cons (Reads.d _).gives .nil, nodupB_ok rfl, by simp, (by simp)⟩⟩
   ·have c1 := c1
    refine .skip ?_
    refine .reg (X := Unit) (fun ζ => .of [(0, .one (.d (.sl false 77 3 (List.map Env.c77 (l))))), (1, .one (.d (.fn F_p first_p caps_p))), (7, .one (.d (.v (.int .i64 ((l.length : Int)))))), (8, .one (.d (.v (.int .i64 (IntKind.wrap .i64 ((j : Int) + 1))))))] []) [⟨[8], some 18, [], []⟩, ⟨[18], some 8, [], []⟩] (fun k10 => ?_) ?_
    ·skip
     refine .bin (.no rfl) rfl rfl rfl rfl rfl rfl ?_
     refine .move (.no rfl) rfl rfl rfl rfl ?_
     exact .fin () (.of (.cons rfl (.cons rfl (.cons rfl (.cons rfl .nil)))) .nil)
    intro _
    exact .here (j + 1) (.of (.cons rfl (.cons rfl (.cons rfl (.cons (svI (show (IntKind.wrap .i64 ((j : Int) + 1)) = (((j + 1) : Int)) by first | rfl | omega | exact wrap_le (by omega) (by omega) | (rw [wrap_le (by omega) (by omega)]; omega))) .nil)))) .nil) ⟨(show (j + 1) ≤ l.length ∧ allTo (j + 1) (fun i => !p (l.getD i default)) = true by exact ⟨by omega, allTo_step hI.2 (by simpa using c1)⟩), (show l.length - (j + 1) < l.length - j by omega)⟩
  ·have c0 := of_decide_eq_false c0
   refine .exit ?_
   refine .seq ?_
   refine .reg (X := Unit) (fun ζ => .of [(4, .one (.d (.v (.int .i64 (-1)))))] []) [⟨[], some 4, [], []⟩] (fun k11 => ?_) ?_
   ·skip
    refine .assign (.no rfl) rfl rfl rfl rfl ?_
    exact .fin () (.of (.cons rfl .nil) .nil)
   intro _
   refine .ret ?_
   have e12 : (-1) = (idx p l) := by exact (idx_none (by omega) hI.2).symm
   have hc13 := eq1 (fun z1 => SV.one (.d (.v (.int .i64 (z1))))) e12
   show _ ∧ _
   exact ⟨.inr rfl, .done ⟨_, [], [], _, .one (c := .d (.v (.int .i64 (idx p l)))) (hc13) .nil, .cons (Reads.d _).gives .nil, nodupB_ok rfl, by simp, (by simp)⟩⟩
theorem c_ContainsFuncE (l : List Env) (F_p : FuncId) (first_p : List (Bool × List D)) (caps_p : List D) (p : Env → Bool) (h_p : ∀ (x0 : Env), FnTrip Tryz.prog F_p first_p caps_p [(true, 3)] (Env.c77 x0) [(false, 1)] [.v (.bool (p x0))]) : Trip Tryz.prog 142 [(false, 1), (false, 1)] ([.sl false 77 3 (List.map Env.c77 (l))] ++ [.fn F_p first_p caps_p]) [(false, 1)] [.v (.bool (l.any p))] [] := by
 refine Trip.of Tryz.func142 (by decide) (c := _) rfl rfl (shB_ok rfl) (Nat.le_of_ble_eq_true rfl) rfl (AftOk.nil _) ?_
 refine .sat (t := 0) rfl (fun hs1 => ?_)
 have hs1l : l.length ≤ 9223372036854775807 := hs1.maplen
 refine .seq ?_
 refine .reg (X := Unit) (fun ζ => .of [(0, .one (.d (.sl false 77 3 (List.map Env.c77 (l))))), (1, .one (.d (.fn F_p first_p caps_p)))] []) [⟨[], some 4, [], []⟩] (fun k2 => ?_) ?_
 ·skip
  refine .assign (.no rfl) rfl rfl rfl rfl ?_
  exact .fin () (.of (.cons rfl (.cons rfl .nil)) .nil)
 intro _
 refine .seq ?_
 refine .reg (X := Unit) (fun ζ => .of [(4, .one (.d (.v (.bool (decide ((idx p l) ≥ 0))))))] []) [⟨[0], some 5, [], []⟩, ⟨[1], some 6, [], []⟩, ⟨[5, 6], some 7, [], []⟩, ⟨[7], some 8, [], []⟩, ⟨[8], some 4, [], []⟩] (fun k3 => ?_) ?_
 ·skip
  refine .move (.no rfl) rfl rfl rfl rfl ?_
  refine .move (.no rfl) rfl rfl rfl rfl ?_
  refine .call (.no rfl) rfl [] [] (c_IndexFuncE l F_p first_p caps_p p h_p) rfl rfl rfl rfl rfl (.cons (Reads.d _).gives (.cons (Reads.d _).gives .nil)) rfl rfl (fun h => absurd rfl h) (.own [7, 0] .nil) (.nil) rfl rfl rfl (by simp) rfl rfl rfl ?_
  refine .bin (.no rfl) rfl rfl rfl rfl rfl rfl ?_
  refine .assign (.no rfl) rfl rfl rfl rfl ?_
  exact .fin () (.of (.cons rfl .nil) .nil)
 intro _
 refine .ret ?_
 have e4 : (decide ((idx p l) ≥ 0)) = (l.any p) := by exact idx_any _ _
 have hc5 := eq1 (fun z1 => SV.one (.d (.v (.bool (z1))))) e4
 show _ ∧ _
 exact ⟨.inr rfl, .done ⟨_, [], [], _, .one (c := .d (.v (.bool (l.any p)))) (hc5) .nil, .cons (Reads.d _).gives .nil, nodupB_ok rfl, by simp, (by simp)⟩⟩
theorem c_areAll1E (x : Env) (F_p : FuncId) (first_p : List (Bool × List D)) (caps_p : List D) (p : Env → Bool) (h_p : ∀ (x0 : Env), FnTrip Tryz.prog F_p first_p caps_p [(true, 3)] (Env.c77 x0) [(false, 1)] [.v (.bool (p x0))]) : Trip Tryz.prog 155 [(true, 3), (false, 1)] (Env.c77 x ++ [.pt false [.fn F_p first_p caps_p]]) [(false, 1)] [.v (.bool (!p x))] [] := by
 refine Trip.of Tryz.func155 (by decide) (c := _) rfl rfl (shB_ok rfl) (Nat.le_of_ble_eq_true rfl) rfl (AftOk.nil _) ?_
 refine .satA (t := 0) (i := 1) rfl rfl (fun hs1 => ?_)
 have hs1l : x.ints.length ≤ 9223372036854775807 := hs1.maplen
 refine .satA (t := 0) (i := 2) rfl rfl (fun hs2 => ?_)
 have hs2l : x.arrs.length ≤ 9223372036854775807 := hs2.maplen
 refine .seq ?_
 refine .reg (X := Nat) (fun ζ => .of [(1, .one (.d (.pt false [.fn F_p first_p caps_p]))), (2, .one (.ptr [2] (ζ) 0))] [([2], (ζ, ζ, .box [.d (.v (.bool (x.live))), .d (.sl false 122 2 (List.map Iv.c (x.ints))), .d (.sl false 122 2 (List.map Iv.c (x.arrs)))]))]) [⟨[0], some 2, [], [[2]]⟩, ⟨[], some 3, [], []⟩] (fun k3 => ?_) ?_
 ·skip
  refine .box (.no rfl) rfl rfl rfl rfl rfl ?_
  refine .assign (.no rfl) rfl rfl rfl rfl ?_
  exact .fin k3 (.of (.cons rfl (.cons rfl .nil)) (.cons rfl .nil))
 intro g4
 refine .seq ?_
 refine .reg (X := Unit) (fun ζ => .of [(3, .one (.d (.v (.bool (!(p x))))))] []) [⟨[1], some 4, [], []⟩, ⟨[2], some 5, [[2]], []⟩, ⟨[4, 5], some 6, [], []⟩, ⟨[6], some 7, [], []⟩, ⟨[7], some 3, [], []⟩] (fun k5 => ?_) ?_
 ·skip
  refine .load (.no rfl) rfl t160 rfl rfl (.d _) rfl rfl rfl rfl ?_
  refine .load (.no rfl) rfl t77 rfl rfl (.ptr _ _ _ _ _ rfl) rfl rfl rfl rfl ?_
  refine .callF (.no rfl) rfl (ds := [.v (.bool (x.live)), .sl false 122 2 (List.map Iv.c (x.ints)), .sl false 122 2 (List.map Iv.c (x.arrs))]) (h_p x) rfl rfl rfl rfl (.own [6, 0] .nil) rfl rfl rfl rfl rfl rfl ?_
  refine .un (.no rfl) rfl rfl rfl rfl rfl ?_
  refine .assign (.no rfl) rfl rfl rfl rfl ?_
  exact .fin () (.of (.cons rfl .nil) .nil)
 intro _
 refine .ret ?_
 have e6 : (!(p x)) = (!p x) := by rfl
 have hc7 := eq1 (fun z1 => SV.one (.d (.v (.bool (z1))))) e6
 show _ ∧ _
 exact ⟨.inr rfl, .done ⟨_, [], [], _, .one (c := .d (.v (.bool (!p x)))) (hc7) .nil, .cons (Reads.d _).gives .nil, nodupB_ok rfl, by simp, (by simp)⟩⟩
theorem c_areAllE (l : List Env) (F_p : FuncId) (first_p : List (Bool × List D)) (caps_p : List D) (p : Env → Bool) (h_p : ∀ (x0 : Env), FnTrip Tryz.prog F_p first_p caps_p [(true, 3)] (Env.c77 x0) [(false, 1)] [.v (.bool (p x0))]) : Trip Tryz.prog 121 [(false, 1), (false, 1)] ([.sl false 77 3 (List.map Env.c77 (l))] ++ [.fn F_p first_p caps_p]) [(false, 1)] [.v (.bool (l.all p))] [] := by
 refine Trip.of Tryz.func121 (by decide) (c := _) rfl rfl (shB_ok rfl) (Nat.le_of_ble_eq_true rfl) rfl (AftOk.nil _) ?_
 refine .sat (t := 0) rfl (fun hs1 => ?_)
 have hs1l : l.length ≤ 9223372036854775807 := hs1.maplen
 refine .seq ?_
 refine .reg (X := Nat) (fun ζ => .of [(0, .one (.d (.sl false 77 3 (List.map Env.c77 (l))))), (3, .one (.ptr [3] (ζ) 0))] [([3], (ζ, ζ, .box [.d (.fn F_p first_p caps_p)]))]) [⟨[1], some 3, [], [[3]]⟩, ⟨[], some 4, [], []⟩] (fun k2 => ?_) ?_
 ·skip
  refine .box (.no rfl) rfl rfl rfl rfl rfl ?_
  refine .assign (.no rfl) rfl rfl rfl rfl ?_
  exact .fin k2 (.of (.cons rfl (.cons rfl .nil)) (.cons rfl .nil))
 intro g3
 refine .seq ?_
 refine .reg (X := Unit) (fun ζ => .of [(4, .one (.d (.v (.bool (!(l.any (fun x0 => !p x0)))))))] []) [⟨[0], some 5, [], []⟩, ⟨[3], some 6, [], []⟩, ⟨[5, 6], some 7, [[3]], []⟩, ⟨[7], some 8, [], []⟩, ⟨[8], some 4, [], []⟩] (fun k4 => ?_) ?_
 ·skip
  refine .move (.no rfl) rfl rfl rfl rfl ?_
  refine .makeFunc (.no rfl) rfl rfl rfl rfl rfl ?_
  refine .call (.no rfl) rfl [[3]] [([3], (g3, g3, .box [.d (.fn F_p first_p caps_p)]))] (c_ContainsFuncE l 155 [] [.pt false [.fn F_p first_p caps_p]] (fun x0 => !p x0) (fun x0 => c_areAll1E x0 F_p first_p caps_p p h_p)) rfl rfl rfl rfl rfl (.cons (Reads.d _).gives (.cons (Reads.clo0 (.cons (Reads.ptr0 (.head _) (.head _) (.cons (Reads.d _) .nil)) .nil)).gives .nil)) rfl rfl (fun _ => (ownCons (Owned.v _) ownNil)) (.own [7, 0] .nil) (.nil) rfl rfl rfl (AllH.get (.cons rfl .nil)) rfl rfl rfl ?_
  refine .un (.no rfl) rfl rfl rfl rfl rfl ?_
  refine .assign (.no rfl) rfl rfl rfl rfl ?_
  exact .fin () (.of (.cons rfl .nil) .nil)
 intro _
 refine .ret ?_
 have e5 : (!(l.any (fun x0 => !p x0))) = (l.all p) := by exact not_any _ _
 have hc6 := eq1 (fun z1 => SV.one (.d (.v (.bool (z1))))) e5
 show _ ∧ _
 exact ⟨.inr rfl, .done ⟨_, [], [], _, .one (c := .d (.v (.bool (l.all p)))) (hc6) .nil, .cons (Reads.d _).gives .nil, nodupB_ok rfl, by simp, (by simp)⟩⟩
end Go.Proofs

namespace Go.Proofs
open Go Go.Proofs Go.Ev

theorem c_l8Widen (a : List Env) (b : List Env) (l : List Int) (hl : a.length = b.length ∧ a.length ≤ 1048576) (hf : ∀ i, i < a.length → (a.getD i default).live = true → (b.getD i default).live = true → (a.getD i default).ints.length = (b.getD i default).ints.length ∧ (a.getD i default).arrs.length = (b.getD i default).arrs.length) (hx : ∀ x ∈ a, x.ints.length ≤ 1048576 ∧ x.arrs.length ≤ 1048576) (hy : ∀ x ∈ b, x.ints.length ≤ 1048576 ∧ x.arrs.length ≤ 1048576) : Trip Tryz.prog 66 [(false, 1), (false, 1), (false, 1)] ([.sl false 77 3 (List.map Env.c77 (a))] ++ [.sl false 77 3 (List.map Env.c77 (b))] ++ [.sl false 2 1 (List.map i64c (l))]) [(false, 1)] [.sl true 77 3 (List.map Env.co77 (zip2 (Env.joinW (fun x y => Iv.widenOk l x y)) a b))] [] := by
 refine Trip.of Tryz.func66 (by decide) (c := _) rfl rfl (shB_ok rfl) (Nat.le_of_ble_eq_true rfl) rfl (AftOk.nil _) ?_
 refine .sat (t := 0) rfl (fun hs1 => ?_)
 have hs1l : a.length ≤ 9223372036854775807 := hs1.maplen
 refine .sat (t := 1) rfl (fun hs2 => ?_)
 have hs2l : b.length ≤ 9223372036854775807 := hs2.maplen
 refine .sat (t := 2) rfl (fun hs3 => ?_)
 have hs3l : l.length ≤ 9223372036854775807 := hs3.maplen
 refine .seq ?_
 refine .reg (X := Unit) (fun ζ => .of [(0, .one (.d (.sl false 77 3 (List.map Env.c77 (a))))), (1, .one (.d (.sl false 77 3 (List.map Env.c77 (b))))), (2, .one (.d (.sl false 2 1 (List.map i64c (l)))))] []) [⟨[], some 6, [], []⟩] (fun k4 => ?_) ?_
 ·skip
  refine .assign (.no rfl) rfl rfl rfl rfl ?_
  exact .fin () (.of (.cons rfl (.cons rfl (.cons rfl .nil))) .nil)
 intro _
 refine .seq ?_
 refine .reg (X := Nat) (fun ζ => .of [(0, .one (.d (.sl false 77 3 (List.map Env.c77 (a))))), (1, .one (.d (.sl false 77 3 (List.map Env.c77 (b))))), (2, .one (.d (.sl false 2 1 (List.map i64c (l))))), (7, .one (.ref [9] (ζ)))] [([9], (ζ, ζ, .row 77 3 ([])))]) [⟨[], some 9, [], [[9]]⟩, ⟨[9], some 7, [], []⟩] (fun k5 => ?_) ?_
 ·skip
  refine .buildSlice (.no rfl) rfl (els := []) t40 rfl z77 rfl rfl rfl rfl rfl rfl rfl rfl (by simp [i77]) .nil rfl rfl rfl ?_
  refine .assign (.no rfl) rfl rfl rfl rfl ?_
  exact .fin k5 (.of (.cons rfl (.cons rfl (.cons rfl (.cons rfl .nil)))) (.cons rfl .nil))
 intro g6
 refine .seq ?_
 refine .seq ?_
 refine .reg (X := Unit) (fun ζ => .of [(0, .one (.d (.sl false 77 3 (List.map Env.c77 (a))))), (1, .one (.d (.sl false 77 3 (List.map Env.c77 (b))))), (2, .one (.d (.sl false 2 1 (List.map i64c (l))))), (7, .one (.ref [9] (g6))), (8, .one (.d (.v (.int .i64 (0)))))] [([9], (g6, g6, .row 77 3 ([])))]) [⟨[], some 8, [], []⟩] (fun k7 => ?_) ?_
 ·skip
  refine .assign (.no rfl) rfl rfl rfl rfl ?_
  exact .fin () (.of (.cons rfl (.cons rfl (.cons rfl (.cons rfl (.cons rfl .nil))))) (.cons rfl .nil))
 intro _
 refine .block ?_
 refine .loop (X := Nat × Nat × Nat) (fun ζ => .of [(0, .one (.d (.sl false 77 3 (List.map Env.c77 (a))))), (1, .one (.d (.sl false 77 3 (List.map Env.c77 (b))))), (2, .one (.d (.sl false 2 1 (List.map i64c (l))))), (7, .one (.ref [9] (ζ.2.1))), (8, .one (.d (.v (.int .i64 ((ζ.1 : Int))))))] [([9], (ζ.2.1, ζ.2.2, .row 77 3 (List.map Env.co77 (zip2To (Env.joinW (fun x y => Iv.widenOk l x y)) a b ζ.1))))]) (fun ζ => ζ.1 ≤ a.length) (fun ζ => a.length - ζ.1) ?_ ?_
 ·skip
  exact .here (0, g6, g6) (.of (.cons rfl (.cons rfl (.cons rfl (.cons rfl (.cons (svI (show (0) = ((0 : Int)) by first | rfl | omega | exact wrap_le (by omega) (by omega) | (rw [wrap_le (by omega) (by omega)]; omega))) .nil))))) (.cons (rowE (show [] = List.map Env.co77 (zip2To (Env.joinW (fun x y => Iv.widenOk l x y)) a b 0) by first | rfl | exact congrArg _ (zip2To_step _ _ _ _))) .nil)) (show 0 ≤ a.length by omega)
 ·rintro ⟨j, q8, q9⟩ hI
  have hI : j ≤ a.length := hI
  refine .seq ?_
  refine .seq ?_
  refine .reg (X := Unit) (fun ζ => .of [(0, .one (.d (.sl false 77 3 (List.map Env.c77 (a))))), (1, .one (.d (.sl false 77 3 (List.map Env.c77 (b))))), (2, .one (.d (.sl false 2 1 (List.map i64c (l))))), (7, .one (.ref [9] (q8))), (8, .one (.d (.v (.int .i64 ((j : Int)))))), (13, .one (.d (.v (.bool (decide ((j : Int) < (a.length : Int)))))))] [([9], (q8, q9, .row 77 3 (List.map Env.co77 (zip2To (Env.joinW (fun x y => Iv.widenOk l x y)) a b j))))]) [⟨[8], some 10, [], []⟩, ⟨[0], some 11, [], []⟩, ⟨[11], some 12, [], []⟩, ⟨[10, 12], some 13, [], []⟩] (fun k10 => ?_) ?_
  ·skip
   refine .move (.no rfl) rfl rfl rfl rfl ?_
   refine .move (.no rfl) rfl rfl rfl rfl ?_
   refine .len (.no rfl) rfl (z := (a.length : Int)) t40 rfl rfl rfl (.d _ _) (map_len _ _) rfl ?_
   refine .bin (.no rfl) rfl rfl rfl rfl rfl rfl ?_
   exact .fin () (.of (.cons rfl (.cons rfl (.cons rfl (.cons rfl (.cons rfl (.cons rfl .nil)))))) (.cons rfl .nil))
  intro _
  refine .cond (t := decide ((j : Int) < (a.length : Int))) rfl (fun c0 => ?_) (fun c0 => ?_)
  ·have c0 := of_decide_eq_true c0
   refine .skip ?_
   refine .seq ?_
   refine .block ?_
   refine .regD (X := Nat) (by kernel_rfl) (fun ζ => .of [(0, .one (.d (.sl false 77 3 (List.map Env.c77 (a))))), (1, .one (.d (.sl false 77 3 (List.map Env.c77 (b))))), (2, .one (.d (.sl false 2 1 (List.map i64c (l))))), (7, .one (.ref [9] (ζ))), (8, .one (.d (.v (.int .i64 ((j : Int))))))] [([9], (ζ, ζ, .row 77 3 (List.map Env.co77 (zip2To (Env.joinW (fun x y => Iv.widenOk l x y)) a b j ++ [(Env.joinW (fun x y => Iv.widenOk l x y) (a.getD j default) (b.getD j default))]))))]) [⟨[7], some 16, [], []⟩, ⟨[0], some 17, [], []⟩, ⟨[8], some 18, [], []⟩, ⟨[17, 18], some 19, [], []⟩, ⟨[19], some 20, [], []⟩, ⟨[1], some 21, [], []⟩, ⟨[8], some 22, [], []⟩, ⟨[21, 22], some 23, [], []⟩, ⟨[23], some 24, [], []⟩, ⟨[2], some 25, [], []⟩, ⟨[20, 24, 25], some 26, [], [[26, 1], [26, 2]]⟩, ⟨[26], some 27, [[26, 1], [26, 2]], [[26, 1], [26, 2], [27]]⟩, ⟨[16, 27], some 28, [[9], [27]], [[27], [9]]⟩, ⟨[28], some 7, [], []⟩] (by kernel_rfl) (fun k11 => ?_) ?_
   ·skip
    refine .move (.no rfl) rfl rfl rfl rfl ?_
    refine .move (.no rfl) rfl rfl rfl rfl ?_
    refine .move (.no rfl) rfl rfl rfl rfl ?_
    refine .indexAddr (.no rfl) rfl (j) t40 rfl t77 rfl rfl rfl (.d _ _) rfl rfl rfl (map_get (by omega)) rfl rfl ?_
    refine .load (.no rfl) rfl t77 rfl rfl (.d _) rfl rfl rfl rfl ?_
    refine .move (.no rfl) rfl rfl rfl rfl ?_
    refine .move (.no rfl) rfl rfl rfl rfl ?_
    refine .indexAddr (.no rfl) rfl (j) t40 rfl t77 rfl rfl rfl (.d _ _) rfl rfl rfl (map_get (by omega)) rfl rfl ?_
    refine .load (.no rfl) rfl t77 rfl rfl (.d _) rfl rfl rfl rfl ?_
    refine .move (.no rfl) rfl rfl rfl rfl ?_
    refine .call (.no rfl) rfl [] [] (c_l6Widen (a.getD j default) (b.getD j default) l (by first | exact hf j (by omega) | omega | (have h8 := hx _ (getD_mem (j := j) (by omega)); have h9 := hy _ (getD_mem (j := j) (by omega)); omega)) (by first | exact hf j (by omega) | omega | (have h8 := hx _ (getD_mem (j := j) (by omega)); have h9 := hy _ (getD_mem (j := j) (by omega)); omega))) rfl rfl rfl rfl rfl (.cons (Reads.d _).gives (.cons (Reads.d _).gives (.cons (Reads.d _).gives (.cons (Reads.d _).gives (.cons (Reads.d _).gives (.cons (Reads.d _).gives (.cons (Reads.d _).gives .nil))))))) rfl rfl (fun h => absurd rfl h) (.own [26, 0] (.own [26, 1] (.own [26, 2] .nil))) (.nil) rfl rfl rfl (by simp) rfl rfl rfl ?_
    refine .buildSlice (.no rfl) rfl (els := [[.v (.bool ((Env.joinW (fun x y => Iv.widenOk l x y) (a.getD j default) (b.getD j default)).live)), .sl true 122 2 (List.map Iv.c ((Env.joinW (fun x y => Iv.widenOk l x y) (a.getD j default) (b.getD j default)).ints)), .sl true 122 2 (List.map Iv.c ((Env.joinW (fun x y => Iv.widenOk l x y) (a.getD j default) (b.getD j default)).arrs))]]) t40 rfl z77 rfl rfl rfl rfl rfl rfl rfl rfl (by simp [i77]) (.cons _ _ _ _ _ _ (.d _) (.cons _ _ _ _ _ _ (.ref _ _ _ _ _ _ rfl) (.cons _ _ _ _ _ _ (.ref _ _ _ _ _ _ rfl) .nil))) rfl rfl rfl ?_
    refine .append (.no rfl) rfl (l3 := List.map Env.co77 (zip2To (Env.joinW (fun x y => Iv.widenOk l x y)) a b j ++ [(Env.joinW (fun x y => Iv.widenOk l x y) (a.getD j default) (b.getD j default))])) t40 rfl z77 rfl rfl rfl rfl rfl rfl rfl rfl (.ref _ _ _ _ rfl) (.take _ _ _ _ _ rfl) rfl (by simp only [List.length_map, zip2To_len, i77]; simp; omega) (map_snoc _ _ _) rfl rfl ?_
    refine .assign (.no rfl) rfl rfl rfl rfl ?_
    exact .fin (k11 + 1 + 1 + 1 + 1 + 1 + 1 + 1 + 1 + 1 + 1 + 1 + 1) (.of (.cons rfl (.cons rfl (.cons rfl (.cons rfl (.cons rfl .nil))))) (.cons rfl .nil))
   intro g12
   refine .reg (X := Unit) (fun ζ => .of [(0, .one (.d (.sl false 77 3 (List.map Env.c77 (a))))), (1, .one (.d (.sl false 77 3 (List.map Env.c77 (b))))), (2, .one (.d (.sl false 2 1 (List.map i64c (l))))), (7, .one (.ref [9] (g12))), (8, .one (.d (.v (.int .i64 (IntKind.wrap .i64 ((j : Int) + 1))))))] [([9], (g12, g12, .row 77 3 (List.map Env.co77 (zip2To (Env.joinW (fun x y => Iv.widenOk l x y)) a b j ++ [(Env.joinW (fun x y => Iv.widenOk l x y) (a.getD j default) (b.getD j default))]))))]) [⟨[8], some 14, [], []⟩, ⟨[14], some 15, [], []⟩, ⟨[15], some 8, [], []⟩] (fun k13 => ?_) ?_
   ·skip
    refine .move (.no rfl) rfl rfl rfl rfl ?_
    refine .bin (.no rfl) rfl rfl rfl rfl rfl rfl ?_
    refine .assign (.no rfl) rfl rfl rfl rfl ?_
    exact .fin () (.of (.cons rfl (.cons rfl (.cons rfl (.cons rfl (.cons rfl .nil))))) (.cons rfl .nil))
   intro _
   exact .here ((j + 1), g12, g12) (.of (.cons rfl (.cons rfl (.cons rfl (.cons rfl (.cons (svI (show (IntKind.wrap .i64 ((j : Int) + 1)) = (((j + 1) : Int)) by first | rfl | omega | exact wrap_le (by omega) (by omega) | (rw [wrap_le (by omega) (by omega)]; omega))) .nil))))) (.cons (rowE (show List.map Env.co77 (zip2To (Env.joinW (fun x y => Iv.widenOk l x y)) a b j ++ [(Env.joinW (fun x y => Iv.widenOk l x y) (a.getD j default) (b.getD j default))]) = List.map Env.co77 (zip2To (Env.joinW (fun x y => Iv.widenOk l x y)) a b (j + 1)) by first | rfl | exact congrArg _ (zip2To_step _ _ _ _))) .nil)) ⟨(show (j + 1) ≤ a.length by omega), (show a.length - (j + 1) < a.length - j by omega)⟩
  ·have c0 := of_decide_eq_false c0
   refine .exit ?_
   refine .seq ?_
   refine .reg (X := Unit) (fun ζ => .of [(6, .one (.ref [9] (q8)))] [([9], (q8, q9, .row 77 3 (List.map Env.co77 (zip2To (Env.joinW (fun x y => Iv.widenOk l x y)) a b j))))]) [⟨[7], some 29, [], []⟩, ⟨[29], some 6, [], []⟩] (fun k14 => ?_) ?_
   ·skip
    refine .move (.no rfl) rfl rfl rfl rfl ?_
    refine .assign (.no rfl) rfl rfl rfl rfl ?_
    exact .fin () (.of (.cons rfl .nil) (.cons rfl .nil))
   intro _
   refine .ret ?_
   have e15 : (zip2To (Env.joinW (fun x y => Iv.widenOk l x y)) a b j) = (zip2 (Env.joinW (fun x y => Iv.widenOk l x y)) a b) := by exact zip2To_all _ hI (by omega)
   show _ ∧ _
   exact ⟨.inr rfl, .done ⟨_, [], [([9], (q8, q9, .row 77 3 (List.map Env.co77 (zip2 (Env.joinW (fun x y => Iv.widenOk l x y)) a b))))], _, .one rfl .nil, .cons (.ref (.head _)) .nil, nodupB_ok rfl, by simp, (AllH.get (.cons (rowE (congrArg (List.map Env.co77) e15)) .nil))⟩⟩
theorem c_tableWith (a : List Env) (b : List Env) (F_f : FuncId) (first_f : List (Bool × List D)) (caps_f : List D) (f : Iv → Iv → Iv) (h_f : ∀ (x0 : Iv) (x1 : Iv), FnTrip Tryz.prog F_f first_f caps_f [(true, 2), (true, 2)] (Iv.c x0 ++ Iv.c x1) [(true, 2)] [.v (.int .i64 ((f x0 x1).lo)), .v (.int .i64 ((f x0 x1).hi))]) (hl : a.length = b.length ∧ a.length ≤ 1048576) (hf : ∀ i, i < a.length → (a.getD i default).live = true → (b.getD i default).live = true → (a.getD i default).ints.length = (b.getD i default).ints.length ∧ (a.getD i default).arrs.length = (b.getD i default).arrs.length) (hx : ∀ x ∈ a, x.ints.length ≤ 1048576 ∧ x.arrs.length ≤ 1048576) (hy : ∀ x ∈ b, x.ints.length ≤ 1048576 ∧ x.arrs.length ≤ 1048576) : Trip Tryz.prog 68 [(false, 1), (false, 1), (false, 1)] ([.sl false 77 3 (List.map Env.c77 (a))] ++ [.sl false 77 3 (List.map Env.c77 (b))] ++ [.fn F_f first_f caps_f]) [(false, 1)] [.sl true 77 3 (List.map Env.co77 (zip2 (Env.joinW f) a b))] [] := by
 refine Trip.of Tryz.func68 (by decide) (c := _) rfl rfl (shB_ok rfl) (Nat.le_of_ble_eq_true rfl) rfl (AftOk.nil _) ?_
 refine .sat (t := 0) rfl (fun hs1 => ?_)
 have hs1l : a.length ≤ 9223372036854775807 := hs1.maplen
 refine .sat (t := 1) rfl (fun hs2 => ?_)
 have hs2l : b.length ≤ 9223372036854775807 := hs2.maplen
 refine .seq ?_
 refine .reg (X := Unit) (fun ζ => .of [(0, .one (.d (.sl false 77 3 (List.map Env.c77 (a))))), (1, .one (.d (.sl false 77 3 (List.map Env.c77 (b))))), (2, .one (.d (.fn F_f first_f caps_f)))] []) [⟨[], some 6, [], []⟩] (fun k3 => ?_) ?_
 ·skip
  refine .assign (.no rfl) rfl rfl rfl rfl ?_
  exact .fin () (.of (.cons rfl (.cons rfl (.cons rfl .nil))) .nil)
 intro _
 refine .seq ?_
 refine .reg (X := Unit) (fun ζ => .of [(0, .one (.d (.sl false 77 3 (List.map Env.c77 (a))))), (1, .one (.d (.sl false 77 3 (List.map Env.c77 (b))))), (2, .one (.d (.fn F_f first_f caps_f))), (7, .one (.d (.v (.slice none 0 0))))] []) [⟨[], some 7, [], []⟩] (fun k4 => ?_) ?_
 ·skip
  refine .assign (.no rfl) rfl rfl rfl rfl ?_
  exact .fin () (.of (.cons rfl (.cons rfl (.cons rfl (.cons rfl .nil)))) .nil)
 intro _
 refine .seq ?_
 refine .seq ?_
 refine .reg (X := Unit) (fun ζ => .of [(1, .one (.d (.sl false 77 3 (List.map Env.c77 (b))))), (2, .one (.d (.fn F_f first_f caps_f))), (7, .one (.d (.v (.slice none 0 0)))), (10, .one (.d (.sl false 77 3 (List.map Env.c77 (a))))), (11, .one (.d (.v (.int .i64 ((a.length : Int)))))), (12, .one (.d (.v (.int .i64 (0)))))] []) [⟨[0], some 10, [], []⟩, ⟨[10], some 11, [], []⟩, ⟨[], some 12, [], []⟩] (fun k5 => ?_) ?_
 ·skip
  refine .move (.no rfl) rfl rfl rfl rfl ?_
  refine .len (.no rfl) rfl (z := (a.length : Int)) t40 rfl rfl rfl (.d _ _) (map_len _ _) rfl ?_
  refine .move (.no rfl) rfl rfl rfl rfl ?_
  exact .fin () (.of (.cons rfl (.cons rfl (.cons rfl (.cons rfl (.cons rfl (.cons rfl .nil)))))) .nil)
 intro _
 refine .block ?_
 refine .loop (X := Nat × Nat × Nat) (fun ζ => .of [(1, .one (.d (.sl false 77 3 (List.map Env.c77 (b))))), (2, .one (.d (.fn F_f first_f caps_f))), (7, .one (.ref [26] (ζ.2.1))), (10, .one (.d (.sl false 77 3 (List.map Env.c77 (a))))), (11, .one (.d (.v (.int .i64 ((a.length : Int)))))), (12, .one (.d (.v (.int .i64 ((ζ.1 : Int))))))] [([26], (ζ.2.1, ζ.2.2, .row 77 3 (List.map Env.co77 (zip2To (Env.joinW f) a b ζ.1))))]) (fun ζ => ζ.1 ≤ a.length) (fun ζ => a.length - ζ.1) ?_ ?_
 ·skip
  refine .nilRow 7 [26] 77 3 rfl fun k8 => ?_
  exact .here (0, k8, k8) (.of (.cons rfl (.cons rfl (.cons rfl (.cons rfl (.cons rfl (.cons (svI (show (0) = ((0 : Int)) by first | rfl | omega | exact wrap_le (by omega) (by omega) | (rw [wrap_le (by omega) (by omega)]; omega))) .nil)))))) (.cons (rowE (show [] = List.map Env.co77 (zip2To (Env.joinW f) a b 0) by first | rfl | exact congrArg _ (zip2To_step _ _ _ _))) .nil)) (show 0 ≤ a.length by omega)
 ·rintro ⟨j, q6, q7⟩ hI
  have hI : j ≤ a.length := hI
  refine .seq ?_
  refine .reg (X := Unit) (fun ζ => .of [(1, .one (.d (.sl false 77 3 (List.map Env.c77 (b))))), (2, .one (.d (.fn F_f first_f caps_f))), (7, .one (.ref [26] (q6))), (10, .one (.d (.sl false 77 3 (List.map Env.c77 (a))))), (11, .one (.d (.v (.int .i64 ((a.length : Int)))))), (12, .one (.d (.v (.int .i64 ((j : Int)))))), (13, .one (.d (.v (.bool (decide ((j : Int) < (a.length : Int)))))))] [([26], (q6, q7, .row 77 3 (List.map Env.co77 (zip2To (Env.joinW f) a b j))))]) [⟨[12, 11], some 13, [], []⟩] (fun k9 => ?_) ?_
  ·skip
   refine .bin (.no rfl) rfl rfl rfl rfl rfl rfl ?_
   exact .fin () (.of (.cons rfl (.cons rfl (.cons rfl (.cons rfl (.cons rfl (.cons rfl (.cons rfl .nil))))))) (.cons rfl .nil))
  intro _
  refine .seq ?_
  refine .cond (t := decide ((j : Int) < (a.length : Int))) rfl (fun c0 => ?_) (fun c0 => ?_)
  ·have c0 := of_decide_eq_true c0
   refine .skip ?_
   refine .seq ?_
   refine .block ?_
   refine .seq ?_
   refine .reg (X := Nat × Nat) (fun ζ => .of [(1, .one (.d (.sl false 77 3 (List.map Env.c77 (b))))), (2, .one (.d (.fn F_f first_f caps_f))), (7, .one (.ref [26] (q6))), (8, .one (.d (.v (.int .i64 ((j : Int)))))), (9, .one (.ptr [9] (ζ.1) 0)), (10, .one (.d (.sl false 77 3 (List.map Env.c77 (a))))), (11, .one (.d (.v (.int .i64 ((a.length : Int)))))), (12, .one (.d (.v (.int .i64 ((j : Int))))))] [([9], (ζ.1, ζ.2, .box [.d (.v (.bool ((a.getD j default).live))), .d (.sl false 122 2 (List.map Iv.c ((a.getD j default).ints))), .d (.sl false 122 2 (List.map Iv.c ((a.getD j default).arrs)))])), ([26], (q6, q7, .row 77 3 (List.map Env.co77 (zip2To (Env.joinW f) a b j))))]) [⟨[12], some 14, [], []⟩, ⟨[10, 12], some 15, [], []⟩, ⟨[15], some 16, [], []⟩, ⟨[], some 9, [], [[9]]⟩, ⟨[14], some 8, [], []⟩, ⟨[9, 16], none, [[9]], [[9]]⟩] (fun k10 => ?_) ?_
   ·skip
    refine .move (.no rfl) rfl rfl rfl rfl ?_
    refine .indexAddr (.no rfl) rfl (j) t40 rfl t77 rfl rfl rfl (.d _ _) rfl rfl rfl (map_get (by omega)) rfl rfl ?_
    refine .load (.no rfl) rfl t77 rfl rfl (.d _) rfl rfl rfl rfl ?_
    refine .alloc (.no rfl) rfl z77 rfl rfl rfl ?_
    refine .assign (.no rfl) rfl rfl rfl rfl ?_
    refine .store (.no rfl) rfl t77 rfl rfl rfl rfl rfl rfl rfl rfl rfl ?_
    exact .fin (k10 + 1 + 1 + 1, k10 + 1 + 1 + 1 + 1 + 1) (.of (.cons rfl (.cons rfl (.cons rfl (.cons rfl (.cons rfl (.cons rfl (.cons rfl (.cons rfl .nil)))))))) (.cons rfl (.cons rfl .nil)))
   rintro ⟨g11, g12⟩
   refine .regD (X := Nat) (by kernel_rfl) (fun ζ => .of [(1, .one (.d (.sl false 77 3 (List.map Env.c77 (b))))), (2, .one (.d (.fn F_f first_f caps_f))), (7, .one (.ref [26] (ζ))), (10, .one (.d (.sl false 77 3 (List.map Env.c77 (a))))), (11, .one (.d (.v (.int .i64 ((a.length : Int)))))), (12, .one (.d (.v (.int .i64 ((j : Int))))))] [([26], (ζ, ζ, .row 77 3 (List.map Env.co77 (zip2To (Env.joinW f) a b j ++ [(Env.joinW f (a.getD j default) (b.getD j default))]))))]) [⟨[7], some 17, [], []⟩, ⟨[9], some 18, [[9]], []⟩, ⟨[1], some 19, [], []⟩, ⟨[8], some 20, [], []⟩, ⟨[19, 20], some 21, [], []⟩, ⟨[21], some 22, [], []⟩, ⟨[2], some 23, [], []⟩, ⟨[18, 22, 23], some 24, [], [[24, 1], [24, 2]]⟩, ⟨[24], some 25, [[24, 1], [24, 2]], [[24, 1], [24, 2], [25]]⟩, ⟨[17, 25], some 26, [[26], [25]], [[25], [26]]⟩, ⟨[26], some 7, [], []⟩] (by kernel_rfl) (fun k13 => ?_) ?_
   ·skip
    refine .move (.no rfl) rfl rfl rfl rfl ?_
    refine .load (.no rfl) rfl t77 rfl rfl (.ptr _ _ _ _ _ rfl) rfl rfl rfl rfl ?_
    refine .move (.no rfl) rfl rfl rfl rfl ?_
    refine .move (.no rfl) rfl rfl rfl rfl ?_
    refine .indexAddr (.no rfl) rfl (j) t40 rfl t77 rfl rfl rfl (.d _ _) rfl rfl rfl (map_get (by omega)) rfl rfl ?_
    refine .load (.no rfl) rfl t77 rfl rfl (.d _) rfl rfl rfl rfl ?_
    refine .move (.no rfl) rfl rfl rfl rfl ?_
    refine .call (.no rfl) rfl [] [] (c_with (a.getD j default) (b.getD j default) F_f first_f caps_f f h_f (by first | exact hf j (by omega) | omega | (have h8 := hx _ (getD_mem (j := j) (by omega)); have h9 := hy _ (getD_mem (j := j) (by omega)); omega)) (by first | exact hf j (by omega) | omega | (have h8 := hx _ (getD_mem (j := j) (by omega)); have h9 := hy _ (getD_mem (j := j) (by omega)); omega))) rfl rfl rfl rfl rfl (.cons (Reads.d _).gives (.cons (Reads.d _).gives (.cons (Reads.d _).gives (.cons (Reads.d _).gives (.cons (Reads.d _).gives (.cons (Reads.d _).gives (.cons (Reads.d _).gives .nil))))))) rfl rfl (fun h => absurd rfl h) (.own [24, 0] (.own [24, 1] (.own [24, 2] .nil))) (.nil) rfl rfl rfl (by simp) rfl rfl rfl ?_
    refine .buildSlice (.no rfl) rfl (els := [[.v (.bool ((Env.joinW f (a.getD j default) (b.getD j default)).live)), .sl true 122 2 (List.map Iv.c ((Env.joinW f (a.getD j default) (b.getD j default)).ints)), .sl true 122 2 (List.map Iv.c ((Env.joinW f (a.getD j default) (b.getD j default)).arrs))]]) t40 rfl z77 rfl rfl rfl rfl rfl rfl rfl rfl (by simp [i77]) (.cons _ _ _ _ _ _ (.d _) (.cons _ _ _ _ _ _ (.ref _ _ _ _ _ _ rfl) (.cons _ _ _ _ _ _ (.ref _ _ _ _ _ _ rfl) .nil))) rfl rfl rfl ?_
    refine .append (.no rfl) rfl (l3 := List.map Env.co77 (zip2To (Env.joinW f) a b j ++ [(Env.joinW f (a.getD j default) (b.getD j default))])) t40 rfl z77 rfl rfl rfl rfl rfl rfl rfl rfl (.ref _ _ _ _ rfl) (.take _ _ _ _ _ rfl) rfl (by simp only [List.length_map, zip2To_len, i77]; simp; omega) (map_snoc _ _ _) rfl rfl ?_
    refine .assign (.no rfl) rfl rfl rfl rfl ?_
    exact .fin (k13 + 1 + 1 + 1 + 1 + 1 + 1 + 1 + 1 + 1) (.of (.cons rfl (.cons rfl (.cons rfl (.cons rfl (.cons rfl (.cons rfl .nil)))))) (.cons rfl .nil))
   intro g14
   refine .reg (X := Unit) (fun ζ => .of [(1, .one (.d (.sl false 77 3 (List.map Env.c77 (b))))), (2, .one (.d (.fn F_f first_f caps_f))), (7, .one (.ref [26] (g14))), (10, .one (.d (.sl false 77 3 (List.map Env.c77 (a))))), (11, .one (.d (.v (.int .i64 ((a.length : Int)))))), (12, .one (.d (.v (.int .i64 (IntKind.wrap .i64 ((j : Int) + 1))))))] [([26], (g14, g14, .row 77 3 (List.map Env.co77 (zip2To (Env.joinW f) a b j ++ [(Env.joinW f (a.getD j default) (b.getD j default))]))))]) [⟨[12], some 27, [], []⟩, ⟨[27], some 12, [], []⟩] (fun k15 => ?_) ?_
   ·skip
    refine .bin (.no rfl) rfl rfl rfl rfl rfl rfl ?_
    refine .move (.no rfl) rfl rfl rfl rfl ?_
    exact .fin () (.of (.cons rfl (.cons rfl (.cons rfl (.cons rfl (.cons rfl (.cons rfl .nil)))))) (.cons rfl .nil))
   intro _
   exact .here ((j + 1), g14, g14) (.of (.cons rfl (.cons rfl (.cons rfl (.cons rfl (.cons rfl (.cons (svI (show (IntKind.wrap .i64 ((j : Int) + 1)) = (((j + 1) : Int)) by first | rfl | omega | exact wrap_le (by omega) (by omega) | (rw [wrap_le (by omega) (by omega)]; omega))) .nil)))))) (.cons (rowE (show List.map Env.co77 (zip2To (Env.joinW f) a b j ++ [(Env.joinW f (a.getD j default) (b.getD j default))]) = List.map Env.co77 (zip2To (Env.joinW f) a b (j + 1)) by first | rfl | exact congrArg _ (zip2To_step _ _ _ _))) .nil)) ⟨(show (j + 1) ≤ a.length by omega), (show a.length - (j + 1) < a.length - j by omega)⟩
  ·have c0 := of_decide_eq_false c0
   refine .exit ?_
   refine .seq ?_
   refine .reg (X := Unit) (fun ζ => .of [(6, .one (.ref [26] (q6)))] [([26], (q6, q7, .row 77 3 (List.map Env.co77 (zip2To (Env.joinW f) a b j))))]) [⟨[7], some 28, [], []⟩, ⟨[28], some 6, [], []⟩] (fun k16 => ?_) ?_
   ·skip
    refine .move (.no rfl) rfl rfl rfl rfl ?_
    refine .assign (.no rfl) rfl rfl rfl rfl ?_
    exact .fin () (.of (.cons rfl .nil) (.cons rfl .nil))
   intro _
   refine .ret ?_
   have e17 : (zip2To (Env.joinW f) a b j) = (zip2 (Env.joinW f) a b) := by exact zip2To_all _ hI (by omega)
   show _ ∧ _
   exact ⟨.inr rfl, .done ⟨_, [], [([26], (q6, q7, .row 77 3 (List.map Env.co77 (zip2 (Env.joinW f) a b))))], _, .one rfl .nil, .cons (.ref (.head _)) .nil, nodupB_ok rfl, by simp, (AllH.get (.cons (rowE (congrArg (List.map Env.co77) e17)) .nil))⟩⟩
end Go.Proofs

namespace Go.Proofs
open Go Go.Proofs Go.Ev

theorem c_sTableOk (d : Decl) (t : List Env) (hs : ∀ x ∈ Decl.names d, x.size ≤ 9223372036854775807) (hd : d.vars.length ≤ 1048576 ∧ d.flags.length ≤ 1048576 ∧ d.arrays.length ≤ 1048576) (hx : ∀ x ∈ t, x.ints.length ≤ 1048576 ∧ x.arrs.length ≤ 1048576) : Trip Tryz.prog 39 [(true, 3), (false, 1)] (Decl.c38 d ++ [.sl false 77 3 (List.map Env.c77 (t))]) [(false, 1)] [.v (.bool (Table.ok d t))] [] := by
 refine Trip.of Tryz.func39 (by decide) (c := _) rfl rfl (shB_ok rfl) (Nat.le_of_ble_eq_true rfl) rfl (AftOk.nil _) ?_
 refine .satA (t := 0) (i := 0) rfl rfl (fun hs1 => ?_)
 have hs1l : d.vars.length ≤ 9223372036854775807 := hs1.maplen
 refine .satA (t := 0) (i := 1) rfl rfl (fun hs2 => ?_)
 have hs2l : d.flags.length ≤ 9223372036854775807 := hs2.maplen
 refine .satA (t := 0) (i := 2) rfl rfl (fun hs3 => ?_)
 have hs3l : d.arrays.length ≤ 9223372036854775807 := hs3.maplen
 refine .sat (t := 1) rfl (fun hs4 => ?_)
 have hs4l : t.length ≤ 9223372036854775807 := hs4.maplen
 refine .seq ?_
 refine .reg (X := Nat) (fun ζ => .of [(1, .one (.d (.sl false 77 3 (List.map Env.c77 (t))))), (2, .one (.ptr [2] (ζ) 0))] [([2], (ζ, ζ, .box [.d (.sl false 9 1 (List.map strc (d.vars))), .d (.sl false 9 1 (List.map strc (d.flags))), .d (.sl false 119 2 (List.map Arr.c (d.arrays)))]))]) [⟨[0], some 2, [], [[2]]⟩, ⟨[], some 4, [], []⟩] (fun k5 => ?_) ?_
 ·skip
  refine .box (.no rfl) rfl rfl rfl rfl rfl ?_
  refine .assign (.no rfl) rfl rfl rfl rfl ?_
  exact .fin k5 (.of (.cons rfl (.cons rfl .nil)) (.cons rfl .nil))
 intro g6
 refine .seq ?_
 refine .seq ?_
 refine .reg (X := Unit) (fun ζ => .of [(1, .one (.d (.sl false 77 3 (List.map Env.c77 (t))))), (2, .one (.ptr [2] (g6) 0)), (15, .one (.d (.v (.bool ((!(Decl.ok d) || (t.length : Int) != (leavesOf d)))))))] [([2], (g6, g6, .box [.d (.sl false 9 1 (List.map strc (d.vars))), .d (.sl false 9 1 (List.map strc (d.flags))), .d (.sl false 119 2 (List.map Arr.c (d.arrays)))]))]) [⟨[2], some 6, [[2]], []⟩, ⟨[6], some 7, [], []⟩, ⟨[7], some 8, [], []⟩, ⟨[8], some 9, [], []⟩, ⟨[9, 1], some 10, [], []⟩, ⟨[9, 10], some 11, [], []⟩, ⟨[9, 2], some 12, [[2]], []⟩, ⟨[9, 12], some 13, [], []⟩, ⟨[9, 11, 13], some 14, [], []⟩, ⟨[9, 14], some 15, [], []⟩] (fun k7 => ?_) ?_
 ·skip
  refine .load (.no rfl) rfl t38 rfl rfl (.ptr _ _ _ _ _ rfl) rfl rfl rfl rfl ?_
  refine .call (.no rfl) rfl [] [] (c_sDeclOk d (by first | assumption | exact hx _ (getD_mem (by omega))) (by first | assumption | exact hx _ (getD_mem (by omega)))) rfl rfl rfl rfl rfl (.cons (Reads.d _).gives (.cons (Reads.d _).gives (.cons (Reads.d _).gives .nil))) rfl rfl (fun h => absurd rfl h) (.own [7, 0] .nil) (.nil) rfl rfl rfl (by simp) rfl rfl rfl ?_
  refine .un (.no rfl) rfl rfl rfl rfl rfl ?_
  refine .moveB (.no rfl) rfl rfl rfl rfl fun b8 g1_3 => ?_
  cases b8
  ·skip
   refine .move (.on rfl rfl rfl rfl rfl) rfl rfl rfl rfl ?_
   refine .len (.on rfl rfl rfl rfl rfl) rfl (z := (t.length : Int)) t40 rfl rfl rfl (.d _ _) (map_len _ _) rfl ?_
   refine .load (.on rfl rfl rfl rfl rfl) rfl t38 rfl rfl (.ptr _ _ _ _ _ rfl) rfl rfl rfl rfl ?_
   refine .call (.on rfl rfl rfl rfl rfl) rfl [] [] (c_l8Size d) rfl rfl rfl rfl rfl (.cons (Reads.d _).gives (.cons (Reads.d _).gives (.cons (Reads.d _).gives .nil))) rfl rfl (fun h => absurd rfl h) (.own [13, 0] .nil) (.nil) rfl rfl rfl (by simp) rfl rfl rfl ?_
   refine .bin (.on rfl rfl rfl rfl rfl) rfl rfl rfl rfl rfl rfl ?_
   refine .pick (.no rfl) rfl rfl rfl rfl rfl ?_
   exact .fin () (.of (.cons rfl (.cons rfl (.cons (svB (show ((t.length : Int) != (leavesOf d)) = ((!(Decl.ok d) || (t.length : Int) != (leavesOf d))) by first | (simp only [g1_3, Bool.true_or, Bool.false_or, Bool.true_and, Bool.false_and, Bool.not_true, Bool.not_false]; done) | simp [g1_3])) .nil))) (.cons rfl .nil))
  ·skip
   refine .off rfl rfl rfl rfl rfl rfl rfl ?_
   refine .off rfl rfl rfl rfl rfl rfl rfl ?_
   refine .off rfl rfl rfl rfl rfl rfl rfl ?_
   refine .off rfl rfl rfl rfl rfl rfl rfl ?_
   refine .off rfl rfl rfl rfl rfl rfl rfl ?_
   refine .pick (.no rfl) rfl rfl rfl rfl rfl ?_
   exact .fin () (.of (.cons rfl (.cons rfl (.cons (svB (show (true) = ((!(Decl.ok d) || (t.length : Int) != (leavesOf d))) by first | (simp only [g1_3, Bool.true_or, Bool.false_or, Bool.true_and, Bool.false_and, Bool.not_true, Bool.not_false]; done) | simp [g1_3])) .nil))) (.cons rfl .nil))
 intro _
 refine .cond (t := (!(Decl.ok d) || (t.length : Int) != (leavesOf d))) rfl (fun c0 => ?_) (fun c0 => ?_)
 ·have c0 := c0
  try simp only [Bool.or_eq_true, Bool.or_eq_false_iff, Bool.and_eq_true, Bool.and_eq_false_iff, decide_eq_true_eq, decide_eq_false_iff_not, Bool.not_eq_true', Bool.not_eq_false', bne_iff_ne, beq_iff_eq, bne_eq_false_iff_eq, beq_eq_false_iff_ne, ne_eq, Bool.not_eq_eq_eq_not, Bool.not_true, Bool.not_false] at c0
  refine .seq ?_
  refine .reg (X := Unit) (fun ζ => .of [(4, .one (.d (.v (.bool (false)))))] []) [⟨[], some 4, [], []⟩] (fun k9 => ?_) ?_
  ·skip
   refine .assign (.no rfl) rfl rfl rfl rfl ?_
   exact .fin () (.of (.cons rfl .nil) .nil)
  intro _
  refine .ret ?_
  have e10 : (false) = (Table.ok d t) := by (unfold Table.ok Table.isIn; rcases c0 with h | h <;> simp [h])
  have hc11 := eq1 (fun z1 => SV.one (.d (.v (.bool (z1))))) e10
  show _ ∧ _
  exact ⟨.inr rfl, .done ⟨_, [], [], _, .one (c := .d (.v (.bool (Table.ok d t)))) (hc11) .nil, .cons (Reads.d _).gives .nil, nodupB_ok rfl, by simp, (by simp)⟩⟩
 ·have c0 := c0
  try simp only [Bool.or_eq_true, Bool.or_eq_false_iff, Bool.and_eq_true, Bool.and_eq_false_iff, decide_eq_true_eq, decide_eq_false_iff_not, Bool.not_eq_true', Bool.not_eq_false', bne_iff_ne, beq_iff_eq, bne_eq_false_iff_eq, beq_eq_false_iff_ne, ne_eq, Bool.not_eq_eq_eq_not, Bool.not_true, Bool.not_false] at c0
  refine .skip ?_
  refine .seq ?_
  refine .seq ?_
  refine .reg (X := Unit) (fun ζ => .of [(1, .one (.d (.sl false 77 3 (List.map Env.c77 (t))))), (2, .one (.ptr [2] (g6) 0)), (5, .one (.d (.v (.int .i64 (0)))))] [([2], (g6, g6, .box [.d (.sl false 9 1 (List.map strc (d.vars))), .d (.sl false 9 1 (List.map strc (d.flags))), .d (.sl false 119 2 (List.map Arr.c (d.arrays)))]))]) [⟨[], some 5, [], []⟩] (fun k12 => ?_) ?_
  ·skip
   refine .assign (.no rfl) rfl rfl rfl rfl ?_
   exact .fin () (.of (.cons rfl (.cons rfl (.cons rfl .nil))) (.cons rfl .nil))
  intro _
  refine .block ?_
  refine .loop (X := Nat) (fun ζ => .of [(1, .one (.d (.sl false 77 3 (List.map Env.c77 (t))))), (2, .one (.ptr [2] (g6) 0)), (5, .one (.d (.v (.int .i64 ((ζ : Int))))))] [([2], (g6, g6, .box [.d (.sl false 9 1 (List.map strc (d.vars))), .d (.sl false 9 1 (List.map strc (d.flags))), .d (.sl false 119 2 (List.map Arr.c (d.arrays)))]))]) (fun ζ => ζ ≤ t.length ∧ allTo ζ (fun i => Env.okIn d (t.getD i default)) = true) (fun ζ => t.length - ζ) ?_ ?_
  ·skip
   exact .here 0 (.of (.cons rfl (.cons rfl (.cons (svI (show (0) = ((0 : Int)) by first | rfl | omega | exact wrap_le (by omega) (by omega) | (rw [wrap_le (by omega) (by omega)]; omega))) .nil))) (.cons rfl .nil)) (show 0 ≤ t.length ∧ allTo 0 (fun i => Env.okIn d (t.getD i default)) = true by exact ⟨by omega, rfl⟩)
  ·rintro j hI
   have hI : j ≤ t.length ∧ allTo j (fun i => Env.okIn d (t.getD i default)) = true := hI
   refine .seq ?_
   refine .seq ?_
   refine .reg (X := Unit) (fun ζ => .of [(1, .one (.d (.sl false 77 3 (List.map Env.c77 (t))))), (2, .one (.ptr [2] (g6) 0)), (5, .one (.d (.v (.int .i64 ((j : Int)))))), (19, .one (.d (.v (.bool (decide ((j : Int) < (t.length : Int)))))))] [([2], (g6, g6, .box [.d (.sl false 9 1 (List.map strc (d.vars))), .d (.sl false 9 1 (List.map strc (d.flags))), .d (.sl false 119 2 (List.map Arr.c (d.arrays)))]))]) [⟨[5], some 16, [], []⟩, ⟨[1], some 17, [], []⟩, ⟨[17], some 18, [], []⟩, ⟨[16, 18], some 19, [], []⟩] (fun k13 => ?_) ?_
   ·skip
    refine .move (.no rfl) rfl rfl rfl rfl ?_
    refine .move (.no rfl) rfl rfl rfl rfl ?_
    refine .len (.no rfl) rfl (z := (t.length : Int)) t40 rfl rfl rfl (.d _ _) (map_len _ _) rfl ?_
    refine .bin (.no rfl) rfl rfl rfl rfl rfl rfl ?_
    exact .fin () (.of (.cons rfl (.cons rfl (.cons rfl (.cons rfl .nil)))) (.cons rfl .nil))
   intro _
   refine .cond (t := decide ((j : Int) < (t.length : Int))) rfl (fun c1 => ?_) (fun c1 => ?_)
   ·have c1 := of_decide_eq_true c1
    refine .skip ?_
    refine .seq ?_
    refine .block ?_
    refine .seq ?_
    refine .regD (X := Unit) (by kernel_rfl) (fun ζ => .of [(1, .one (.d (.sl false 77 3 (List.map Env.c77 (t))))), (2, .one (.ptr [2] (g6) 0)), (5, .one (.d (.v (.int .i64 ((j : Int)))))), (28, .one (.d (.v (.bool (!(Decl.ok d && Env.okIn d (t.getD j default)))))))] [([2], (g6, g6, .box [.d (.sl false 9 1 (List.map strc (d.vars))), .d (.sl false 9 1 (List.map strc (d.flags))), .d (.sl false 119 2 (List.map Arr.c (d.arrays)))]))]) [⟨[2], some 22, [[2]], []⟩, ⟨[1], some 23, [], []⟩, ⟨[5], some 24, [], []⟩, ⟨[23, 24], some 25, [], []⟩, ⟨[25], some 26, [], []⟩, ⟨[22, 26], some 27, [], []⟩, ⟨[27], some 28, [], []⟩] (by kernel_rfl) (fun k14 => ?_) ?_
    ·skip
     refine .load (.no rfl) rfl t38 rfl rfl (.ptr _ _ _ _ _ rfl) rfl rfl rfl rfl ?_
     refine .move (.no rfl) rfl rfl rfl rfl ?_
     refine .move (.no rfl) rfl rfl rfl rfl ?_
     refine .indexAddr (.no rfl) rfl (j) t40 rfl t77 rfl rfl rfl (.d _ _) rfl rfl rfl (map_get (by omega)) rfl rfl ?_
     refine .load (.no rfl) rfl t77 rfl rfl (.d _) rfl rfl rfl rfl ?_
     refine .call (.no rfl) rfl [] [] (c_sEnvOk d (t.getD j default) (by first | assumption | exact hx _ (getD_mem (by omega))) (by first | assumption | exact hx _ (getD_mem (by omega))) (by first | assumption | exact hx _ (getD_mem (by omega)))) rfl rfl rfl rfl rfl (.cons (Reads.d _).gives (.cons (Reads.d _).gives (.cons (Reads.d _).gives (.cons (Reads.d _).gives (.cons (Reads.d _).gives (.cons (Reads.d _).gives .nil)))))) rfl rfl (fun h => absurd rfl h) (.own [27, 0] .nil) (.nil) rfl rfl rfl (by simp) rfl rfl rfl ?_
     refine .un (.no rfl) rfl rfl rfl rfl rfl ?_
     exact .fin () (.of (.cons rfl (.cons rfl (.cons rfl (.cons rfl .nil)))) (.cons rfl .nil))
    intro _
    refine .cond (t := !(Decl.ok d && Env.okIn d (t.getD j default))) rfl (fun c2 => ?_) (fun c2 => ?_)
    ·have c2 := c2
     try simp only [Bool.or_eq_true, Bool.or_eq_false_iff, Bool.and_eq_true, Bool.and_eq_false_iff, decide_eq_true_eq, decide_eq_false_iff_not, Bool.not_eq_true', Bool.not_eq_false', bne_iff_ne, beq_iff_eq, bne_eq_false_iff_eq, beq_eq_false_iff_ne, ne_eq, Bool.not_eq_eq_eq_not, Bool.not_true, Bool.not_false] at c2
     refine .seq ?_
     refine .reg (X := Unit) (fun ζ => .of [(4, .one (.d (.v (.bool (false)))))] []) [⟨[], some 4, [], []⟩] (fun k15 => ?_) ?_
     ·skip
      refine .assign (.no rfl) rfl rfl rfl rfl ?_
      exact .fin () (.of (.cons rfl .nil) .nil)
     intro _
     refine .ret ?_
     have e16 : (false) = (Table.ok d t) := by (unfold Table.ok Table.isIn; rw [all_none (p := Env.okIn d) (j := j) (by omega) (by rcases c2 with h | h <;> first | exact h | (rw [c0.1] at h; exact absurd h (by decide))), Bool.and_false, Bool.and_false])
     have hc17 := eq1 (fun z1 => SV.one (.d (.v (.bool (z1))))) e16
     show _ ∧ _
     exact ⟨.inr rfl, .done ⟨_, [], [], _, .one (c := .d (.v (.bool (Table.ok d t)))) (hc17) .nil, .cons (Reads.d _).gives .nil, nodupB_ok rfl, by simp, (by simp)⟩⟩
    ·have c2 := c2
     try simp only [Bool.or_eq_true, Bool.or_eq_false_iff, Bool.and_eq_true, Bool.and_eq_false_iff, decide_eq_true_eq, decide_eq_false_iff_not, Bool.not_eq_true', Bool.not_eq_false', bne_iff_ne, beq_iff_eq, bne_eq_false_iff_eq, beq_eq_false_iff_ne, ne_eq, Bool.not_eq_eq_eq_not, Bool.not_true, Bool.not_false] at c2
     refine .skip ?_
     refine .reg (X := Unit) (fun ζ => .of [(1, .one (.d (.sl false 77 3 (List.map Env.c77 (t))))), (2, .one (.ptr [2] (g6) 0)), (5, .one (.d (.v (.int .i64 (IntKind.wrap .i64 ((j : Int) + 1))))))] [([2], (g6, g6, .box [.d (.sl false 9 1 (List.map strc (d.vars))), .d (.sl false 9 1 (List.map strc (d.flags))), .d (.sl false 119 2 (List.map Arr.c (d.arrays)))]))]) [⟨[5], some 20, [], []⟩, ⟨[20], some 21, [], []⟩, ⟨[21], some 5, [], []⟩] (fun k18 => ?_) ?_
     ·skip
      refine .move (.no rfl) rfl rfl rfl rfl ?_
      refine .bin (.no rfl) rfl rfl rfl rfl rfl rfl ?_
      refine .assign (.no rfl) rfl rfl rfl rfl ?_
      exact .fin () (.of (.cons rfl (.cons rfl (.cons rfl .nil))) (.cons rfl .nil))
     intro _
     exact .here (j + 1) (.of (.cons rfl (.cons rfl (.cons (svI (show (IntKind.wrap .i64 ((j : Int) + 1)) = (((j + 1) : Int)) by first | rfl | omega | exact wrap_le (by omega) (by omega) | (rw [wrap_le (by omega) (by omega)]; omega))) .nil))) (.cons rfl .nil)) ⟨(show (j + 1) ≤ t.length ∧ allTo (j + 1) (fun i => Env.okIn d (t.getD i default)) = true by exact ⟨by omega, allTo_step hI.2 c2.2⟩), (show t.length - (j + 1) < t.length - j by omega)⟩
   ·have c1 := of_decide_eq_false c1
    refine .exit ?_
    refine .seq ?_
    refine .reg (X := Unit) (fun ζ => .of [(4, .one (.d (.v (.bool (true)))))] []) [⟨[], some 4, [], []⟩] (fun k19 => ?_) ?_
    ·skip
     refine .assign (.no rfl) rfl rfl rfl rfl ?_
     exact .fin () (.of (.cons rfl .nil) .nil)
    intro _
    refine .ret ?_
    have e20 : (true) = (Table.ok d t) := by (unfold Table.ok Table.isIn; rw [c0.1, all_done (p := Env.okIn d) (j := j) (by omega) hI.2]; simp [c0.2])
    have hc21 := eq1 (fun z1 => SV.one (.d (.v (.bool (z1))))) e20
    show _ ∧ _
    exact ⟨.inr rfl, .done ⟨_, [], [], _, .one (c := .d (.v (.bool (Table.ok d t)))) (hc21) .nil, .cons (Reads.d _).gives .nil, nodupB_ok rfl, by simp, (by simp)⟩⟩
end Go.Proofs

namespace Go.Proofs
open Go Go.Proofs Go.Ev

theorem c_isTable (d : Decl) (t : List Env) : Trip Tryz.prog 85 [(true, 3), (false, 1)] (Decl.c38 d ++ [.sl false 77 3 (List.map Env.c77 (t))]) [(false, 1)] [.v (.bool (Table.isIn d t))] [] := by
 refine Trip.of Tryz.func85 (by decide) (c := _) rfl rfl (shB_ok rfl) (Nat.le_of_ble_eq_true rfl) rfl (AftOk.nil _) ?_
 refine .satA (t := 0) (i := 0) rfl rfl (fun hs1 => ?_)
 have hs1l : d.vars.length ≤ 9223372036854775807 := hs1.maplen
 refine .satA (t := 0) (i := 1) rfl rfl (fun hs2 => ?_)
 have hs2l : d.flags.length ≤ 9223372036854775807 := hs2.maplen
 refine .satA (t := 0) (i := 2) rfl rfl (fun hs3 => ?_)
 have hs3l : d.arrays.length ≤ 9223372036854775807 := hs3.maplen
 refine .sat (t := 1) rfl (fun hs4 => ?_)
 have hs4l : t.length ≤ 9223372036854775807 := hs4.maplen
 refine .seq ?_
 refine .reg (X := Nat) (fun ζ => .of [(1, .one (.d (.sl false 77 3 (List.map Env.c77 (t))))), (2, .one (.ptr [2] (ζ) 0))] [([2], (ζ, ζ, .box [.d (.sl false 9 1 (List.map strc (d.vars))), .d (.sl false 9 1 (List.map strc (d.flags))), .d (.sl false 119 2 (List.map Arr.c (d.arrays)))]))]) [⟨[0], some 2, [], [[2]]⟩, ⟨[], some 4, [], []⟩] (fun k5 => ?_) ?_
 ·skip
  refine .box (.no rfl) rfl rfl rfl rfl rfl ?_
  refine .assign (.no rfl) rfl rfl rfl rfl ?_
  exact .fin k5 (.of (.cons rfl (.cons rfl .nil)) (.cons rfl .nil))
 intro g6
 refine .seq ?_
 refine .regD (X := Unit) (by kernel_rfl) (fun ζ => .of [(4, .one (.d (.v (.bool (((t.length : Int) == (leavesOf d) && t.all (fun x0 => Env.okIn d x0)))))))] []) [⟨[1], some 5, [], []⟩, ⟨[5], some 6, [], []⟩, ⟨[2], some 7, [[2]], []⟩, ⟨[7], some 8, [], []⟩, ⟨[6, 8], some 9, [], []⟩, ⟨[9], some 10, [], []⟩, ⟨[10, 1], some 11, [], []⟩, ⟨[10, 2], some 12, [[2]], []⟩, ⟨[10, 12], some 13, [], []⟩, ⟨[10, 11, 13], some 14, [], []⟩, ⟨[10, 14], some 15, [], []⟩, ⟨[15], some 4, [], []⟩] (by kernel_rfl) (fun k7 => ?_) ?_
 ·skip
  refine .move (.no rfl) rfl rfl rfl rfl ?_
  refine .call (.no rfl) rfl [] [] (c_sizeE t) rfl rfl rfl rfl rfl (.cons (Reads.d _).gives .nil) rfl rfl (fun h => absurd rfl h) (.own [6, 0] .nil) (.nil) rfl rfl rfl (by simp) rfl rfl rfl ?_
  refine .load (.no rfl) rfl t38 rfl rfl (.ptr _ _ _ _ _ rfl) rfl rfl rfl rfl ?_
  refine .call (.no rfl) rfl [] [] (c_leaves d) rfl rfl rfl rfl rfl (.cons (Reads.d _).gives (.cons (Reads.d _).gives (.cons (Reads.d _).gives .nil))) rfl rfl (fun h => absurd rfl h) (.own [8, 0] .nil) (.nil) rfl rfl rfl (by simp) rfl rfl rfl ?_
  refine .bin (.no rfl) rfl rfl rfl rfl rfl rfl ?_
  refine .moveB (.no rfl) rfl rfl rfl rfl fun b8 g1_5 => ?_
  cases b8
  ·skip
   refine .off rfl rfl rfl rfl rfl rfl rfl ?_
   refine .off rfl rfl rfl rfl rfl rfl rfl ?_
   refine .off rfl rfl rfl rfl rfl rfl rfl ?_
   refine .off rfl rfl rfl rfl rfl rfl rfl ?_
   refine .pick (.no rfl) rfl rfl rfl rfl rfl ?_
   refine .assign (.no rfl) rfl rfl rfl rfl ?_
   exact .fin () (.of (.cons (svB (show (false) = (((t.length : Int) == (leavesOf d) && t.all (fun x0 => Env.okIn d x0))) by first | (simp only [g1_5, Bool.true_or, Bool.false_or, Bool.true_and, Bool.false_and, Bool.not_true, Bool.not_false]; done) | simp [g1_5])) .nil) .nil)
  ·skip
   refine .move (.on rfl rfl rfl rfl rfl) rfl rfl rfl rfl ?_
   refine .load (.on rfl rfl rfl rfl rfl) rfl t38 rfl rfl (.ptr _ _ _ _ _ rfl) rfl rfl rfl rfl ?_
   refine .makeFunc (.on rfl rfl rfl rfl rfl) rfl rfl rfl rfl rfl ?_
   refine .call (.on rfl rfl rfl rfl rfl) rfl [] [] (c_areAllE t 122 [(true, [.sl false 9 1 (List.map strc (d.vars)), .sl false 9 1 (List.map strc (d.flags)), .sl false 119 2 (List.map Arr.c (d.arrays))])] [] (fun x0 => Env.okIn d x0) (fun x0 => c_isEnv d x0)) rfl rfl rfl rfl rfl (.cons (Reads.d _).gives (.cons (Reads.clo1 (.cons (Reads.d _) (.cons (Reads.d _) (.cons (Reads.d _) .nil))) (.nil)).gives .nil)) rfl rfl (fun h => absurd rfl h) (.own [14, 0] .nil) (.nil) rfl rfl rfl (by simp) rfl rfl rfl ?_
   refine .pick (.no rfl) rfl rfl rfl rfl rfl ?_
   refine .assign (.no rfl) rfl rfl rfl rfl ?_
   exact .fin () (.of (.cons (svB (show (t.all (fun x0 => Env.okIn d x0)) = (((t.length : Int) == (leavesOf d) && t.all (fun x0 => Env.okIn d x0))) by first | (simp only [g1_5, Bool.true_or, Bool.false_or, Bool.true_and, Bool.false_and, Bool.not_true, Bool.not_false]; done) | simp [g1_5])) .nil) .nil)
 intro _
 refine .ret ?_
 have e9 : (((t.length : Int) == (leavesOf d) && t.all (fun x0 => Env.okIn d x0))) = (Table.isIn d t) := by rfl
 have hc10 := eq1 (fun z1 => SV.one (.d (.v (.bool (z1))))) e9
 show _ ∧ _
 exact ⟨.inr rfl, .done ⟨_, [], [], _, .one (c := .d (.v (.bool (Table.isIn d t)))) (hc10) .nil, .cons (Reads.d _).gives .nil, nodupB_ok rfl, by simp, (by simp)⟩⟩
theorem c_TableOk (d : Decl) (t : List Env) (hs : ∀ x ∈ Decl.names d, x.size ≤ 9223372036854775807) (hb : d.vars.length ≤ 1048576 ∧ d.flags.length ≤ 1048576 ∧ d.arrays.length ≤ 1048576) : Trip Tryz.prog 48 [(true, 3), (false, 1)] (Decl.c38 d ++ [.sl false 77 3 (List.map Env.c77 (t))]) [(false, 1)] [.v (.bool (Table.ok d t))] [] := by
 refine Trip.of Tryz.func48 (by decide) (c := _) rfl rfl (shB_ok rfl) (Nat.le_of_ble_eq_true rfl) rfl (AftOk.nil _) ?_
 refine .satA (t := 0) (i := 0) rfl rfl (fun hs1 => ?_)
 have hs1l : d.vars.length ≤ 9223372036854775807 := hs1.maplen
 refine .satA (t := 0) (i := 1) rfl rfl (fun hs2 => ?_)
 have hs2l : d.flags.length ≤ 9223372036854775807 := hs2.maplen
 refine .satA (t := 0) (i := 2) rfl rfl (fun hs3 => ?_)
 have hs3l : d.arrays.length ≤ 9223372036854775807 := hs3.maplen
 refine .sat (t := 1) rfl (fun hs4 => ?_)
 have hs4l : t.length ≤ 9223372036854775807 := hs4.maplen
 refine .seq ?_
 refine .reg (X := Nat) (fun ζ => .of [(1, .one (.d (.sl false 77 3 (List.map Env.c77 (t))))), (2, .one (.ptr [2] (ζ) 0))] [([2], (ζ, ζ, .box [.d (.sl false 9 1 (List.map strc (d.vars))), .d (.sl false 9 1 (List.map strc (d.flags))), .d (.sl false 119 2 (List.map Arr.c (d.arrays)))]))]) [⟨[0], some 2, [], [[2]]⟩, ⟨[], some 4, [], []⟩] (fun k5 => ?_) ?_
 ·skip
  refine .box (.no rfl) rfl rfl rfl rfl rfl ?_
  refine .assign (.no rfl) rfl rfl rfl rfl ?_
  exact .fin k5 (.of (.cons rfl (.cons rfl .nil)) (.cons rfl .nil))
 intro g6
 refine .seq ?_
 refine .reg (X := Unit) (fun ζ => .of [(4, .one (.d (.v (.bool ((Decl.ok d && Table.isIn d t))))))] []) [⟨[2], some 5, [[2]], []⟩, ⟨[5], some 6, [], []⟩, ⟨[6], some 7, [], []⟩, ⟨[7, 2], some 8, [[2]], []⟩, ⟨[7, 1], some 9, [], []⟩, ⟨[7, 8, 9], some 10, [], []⟩, ⟨[7, 10], some 11, [], []⟩, ⟨[11], some 4, [], []⟩] (fun k7 => ?_) ?_
 ·skip
  refine .load (.no rfl) rfl t38 rfl rfl (.ptr _ _ _ _ _ rfl) rfl rfl rfl rfl ?_
  refine .call (.no rfl) rfl [] [] (c_isRight d (by assumption) (by assumption)) rfl rfl rfl rfl rfl (.cons (Reads.d _).gives (.cons (Reads.d _).gives (.cons (Reads.d _).gives .nil))) rfl rfl (fun h => absurd rfl h) (.own [6, 0] .nil) (.nil) rfl rfl rfl (by simp) rfl rfl rfl ?_
  refine .moveB (.no rfl) rfl rfl rfl rfl fun b8 g1_2 => ?_
  cases b8
  ·skip
   refine .off rfl rfl rfl rfl rfl rfl rfl ?_
   refine .off rfl rfl rfl rfl rfl rfl rfl ?_
   refine .off rfl rfl rfl rfl rfl rfl rfl ?_
   refine .pick (.no rfl) rfl rfl rfl rfl rfl ?_
   refine .assign (.no rfl) rfl rfl rfl rfl ?_
   exact .fin () (.of (.cons (svB (show (false) = ((Decl.ok d && Table.isIn d t)) by first | (simp only [g1_2, Bool.true_or, Bool.false_or, Bool.true_and, Bool.false_and, Bool.not_true, Bool.not_false]; done) | simp [g1_2])) .nil) .nil)
  ·skip
   refine .load (.on rfl rfl rfl rfl rfl) rfl t38 rfl rfl (.ptr _ _ _ _ _ rfl) rfl rfl rfl rfl ?_
   refine .move (.on rfl rfl rfl rfl rfl) rfl rfl rfl rfl ?_
   refine .call (.on rfl rfl rfl rfl rfl) rfl [] [] (c_isTable d t) rfl rfl rfl rfl rfl (.cons (Reads.d _).gives (.cons (Reads.d _).gives (.cons (Reads.d _).gives (.cons (Reads.d _).gives .nil)))) rfl rfl (fun h => absurd rfl h) (.own [10, 0] .nil) (.nil) rfl rfl rfl (by simp) rfl rfl rfl ?_
   refine .pick (.no rfl) rfl rfl rfl rfl rfl ?_
   refine .assign (.no rfl) rfl rfl rfl rfl ?_
   exact .fin () (.of (.cons (svB (show (Table.isIn d t) = ((Decl.ok d && Table.isIn d t)) by first | (simp only [g1_2, Bool.true_or, Bool.false_or, Bool.true_and, Bool.false_and, Bool.not_true, Bool.not_false]; done) | simp [g1_2])) .nil) .nil)
 intro _
 refine .ret ?_
 have e9 : ((Decl.ok d && Table.isIn d t)) = (Table.ok d t) := by rfl
 have hc10 := eq1 (fun z1 => SV.one (.d (.v (.bool (z1))))) e9
 show _ ∧ _
 exact ⟨.inr rfl, .done ⟨_, [], [], _, .one (c := .d (.v (.bool (Table.ok d t)))) (hc10) .nil, .cons (Reads.d _).gives .nil, nodupB_ok rfl, by simp, (by simp)⟩⟩
theorem c_areTables (d : Decl) (a : List Env) (b : List Env) (hs : ∀ x ∈ Decl.names d, x.size ≤ 9223372036854775807) (hb : d.vars.length ≤ 1048576 ∧ d.flags.length ≤ 1048576 ∧ d.arrays.length ≤ 1048576) : Trip Tryz.prog 67 [(true, 3), (false, 1), (false, 1)] (Decl.c38 d ++ [.sl false 77 3 (List.map Env.c77 (a))] ++ [.sl false 77 3 (List.map Env.c77 (b))]) [(false, 1)] [.v (.bool (Table.ok d a && Table.isIn d b))] [] := by
 refine Trip.of Tryz.func67 (by decide) (c := _) rfl rfl (shB_ok rfl) (Nat.le_of_ble_eq_true rfl) rfl (AftOk.nil _) ?_
 refine .satA (t := 0) (i := 0) rfl rfl (fun hs1 => ?_)
 have hs1l : d.vars.length ≤ 9223372036854775807 := hs1.maplen
 refine .satA (t := 0) (i := 1) rfl rfl (fun hs2 => ?_)
 have hs2l : d.flags.length ≤ 9223372036854775807 := hs2.maplen
 refine .satA (t := 0) (i := 2) rfl rfl (fun hs3 => ?_)
 have hs3l : d.arrays.length ≤ 9223372036854775807 := hs3.maplen
 refine .sat (t := 1) rfl (fun hs4 => ?_)
 have hs4l : a.length ≤ 9223372036854775807 := hs4.maplen
 refine .sat (t := 2) rfl (fun hs5 => ?_)
 have hs5l : b.length ≤ 9223372036854775807 := hs5.maplen
 refine .seq ?_
 refine .reg (X := Nat) (fun ζ => .of [(1, .one (.d (.sl false 77 3 (List.map Env.c77 (a))))), (2, .one (.d (.sl false 77 3 (List.map Env.c77 (b))))), (3, .one (.ptr [3] (ζ) 0))] [([3], (ζ, ζ, .box [.d (.sl false 9 1 (List.map strc (d.vars))), .d (.sl false 9 1 (List.map strc (d.flags))), .d (.sl false 119 2 (List.map Arr.c (d.arrays)))]))]) [⟨[0], some 3, [], [[3]]⟩, ⟨[], some 6, [], []⟩] (fun k6 => ?_) ?_
 ·skip
  refine .box (.no rfl) rfl rfl rfl rfl rfl ?_
  refine .assign (.no rfl) rfl rfl rfl rfl ?_
  exact .fin k6 (.of (.cons rfl (.cons rfl (.cons rfl .nil))) (.cons rfl .nil))
 intro g7
 refine .seq ?_
 refine .reg (X := Unit) (fun ζ => .of [(6, .one (.d (.v (.bool ((Table.ok d a && Table.isIn d b))))))] []) [⟨[3], some 7, [[3]], []⟩, ⟨[1], some 8, [], []⟩, ⟨[7, 8], some 9, [], []⟩, ⟨[9], some 10, [], []⟩, ⟨[10, 3], some 11, [[3]], []⟩, ⟨[10, 2], some 12, [], []⟩, ⟨[10, 11, 12], some 13, [], []⟩, ⟨[10, 13], some 14, [], []⟩, ⟨[14], some 6, [], []⟩] (fun k8 => ?_) ?_
 ·skip
  refine .load (.no rfl) rfl t38 rfl rfl (.ptr _ _ _ _ _ rfl) rfl rfl rfl rfl ?_
  refine .move (.no rfl) rfl rfl rfl rfl ?_
  refine .call (.no rfl) rfl [] [] (c_TableOk d a (by assumption) (by assumption)) rfl rfl rfl rfl rfl (.cons (Reads.d _).gives (.cons (Reads.d _).gives (.cons (Reads.d _).gives (.cons (Reads.d _).gives .nil)))) rfl rfl (fun h => absurd rfl h) (.own [9, 0] .nil) (.nil) rfl rfl rfl (by simp) rfl rfl rfl ?_
  refine .moveB (.no rfl) rfl rfl rfl rfl fun b9 g1_3 => ?_
  cases b9
  ·skip
   refine .off rfl rfl rfl rfl rfl rfl rfl ?_
   refine .off rfl rfl rfl rfl rfl rfl rfl ?_
   refine .off rfl rfl rfl rfl rfl rfl rfl ?_
   refine .pick (.no rfl) rfl rfl rfl rfl rfl ?_
   refine .assign (.no rfl) rfl rfl rfl rfl ?_
   exact .fin () (.of (.cons (svB (show (false) = ((Table.ok d a && Table.isIn d b)) by first | (simp only [g1_3, Bool.true_or, Bool.false_or, Bool.true_and, Bool.false_and, Bool.not_true, Bool.not_false]; done) | simp [g1_3])) .nil) .nil)
  ·skip
   refine .load (.on rfl rfl rfl rfl rfl) rfl t38 rfl rfl (.ptr _ _ _ _ _ rfl) rfl rfl rfl rfl ?_
   refine .move (.on rfl rfl rfl rfl rfl) rfl rfl rfl rfl ?_
   refine .call (.on rfl rfl rfl rfl rfl) rfl [] [] (c_isTable d b) rfl rfl rfl rfl rfl (.cons (Reads.d _).gives (.cons (Reads.d _).gives (.cons (Reads.d _).gives (.cons (Reads.d _).gives .nil)))) rfl rfl (fun h => absurd rfl h) (.own [13, 0] .nil) (.nil) rfl rfl rfl (by simp) rfl rfl rfl ?_
   refine .pick (.no rfl) rfl rfl rfl rfl rfl ?_
   refine .assign (.no rfl) rfl rfl rfl rfl ?_
   exact .fin () (.of (.cons (svB (show (Table.isIn d b) = ((Table.ok d a && Table.isIn d b)) by first | (simp only [g1_3, Bool.true_or, Bool.false_or, Bool.true_and, Bool.false_and, Bool.not_true, Bool.not_false]; done) | simp [g1_3])) .nil) .nil)
 intro _
 refine .ret ?_
 have e10 : ((Table.ok d a && Table.isIn d b)) = (Table.ok d a && Table.isIn d b) := by rfl
 have hc11 := eq1 (fun z1 => SV.one (.d (.v (.bool (z1))))) e10
 show _ ∧ _
 exact ⟨.inr rfl, .done ⟨_, [], [], _, .one (c := .d (.v (.bool (Table.ok d a && Table.isIn d b)))) (hc11) .nil, .cons (Reads.d _).gives .nil, nodupB_ok rfl, by simp, (by simp)⟩⟩
end Go.Proofs

namespace Go.Proofs
open Go Go.Proofs Go.Ev

theorem c_sTableWiden (d : Decl) (a : List Env) (b : List Env) (l : List Int) (hs : ∀ x ∈ Decl.names d, x.size ≤ 9223372036854775807) (hd : d.vars.length ≤ 1048576 ∧ d.flags.length ≤ 1048576 ∧ d.arrays.length ≤ 1048576) (hx : Small 1048576 a) (hy : Small 1048576 b) : Trip Tryz.prog 23 [(true, 3), (false, 1), (false, 1), (false, 1)] (Decl.c38 d ++ [.sl false 77 3 (List.map Env.c77 (a))] ++ [.sl false 77 3 (List.map Env.c77 (b))] ++ [.sl false 2 1 (List.map i64c (l))]) [(false, 1)] [.sl true 77 3 (List.map Env.co77 (Table.widenIn d a b l))] [] := by
 refine Trip.of Tryz.func23 (by decide) (c := _) rfl rfl (shB_ok rfl) (Nat.le_of_ble_eq_true rfl) rfl (AftOk.nil _) ?_
 refine .satA (t := 0) (i := 0) rfl rfl (fun hs1 => ?_)
 have hs1l : d.vars.length ≤ 9223372036854775807 := hs1.maplen
 refine .satA (t := 0) (i := 1) rfl rfl (fun hs2 => ?_)
 have hs2l : d.flags.length ≤ 9223372036854775807 := hs2.maplen
 refine .satA (t := 0) (i := 2) rfl rfl (fun hs3 => ?_)
 have hs3l : d.arrays.length ≤ 9223372036854775807 := hs3.maplen
 refine .sat (t := 1) rfl (fun hs4 => ?_)
 have hs4l : a.length ≤ 9223372036854775807 := hs4.maplen
 refine .sat (t := 2) rfl (fun hs5 => ?_)
 have hs5l : b.length ≤ 9223372036854775807 := hs5.maplen
 refine .sat (t := 3) rfl (fun hs6 => ?_)
 have hs6l : l.length ≤ 9223372036854775807 := hs6.maplen
 refine .seq ?_
 refine .reg (X := Nat) (fun ζ => .of [(1, .one (.d (.sl false 77 3 (List.map Env.c77 (a))))), (2, .one (.d (.sl false 77 3 (List.map Env.c77 (b))))), (3, .one (.d (.sl false 2 1 (List.map i64c (l))))), (4, .one (.ptr [4] (ζ) 0))] [([4], (ζ, ζ, .box [.d (.sl false 9 1 (List.map strc (d.vars))), .d (.sl false 9 1 (List.map strc (d.flags))), .d (.sl false 119 2 (List.map Arr.c (d.arrays)))]))]) [⟨[0], some 4, [], [[4]]⟩, ⟨[], some 8, [], []⟩] (fun k7 => ?_) ?_
 ·skip
  refine .box (.no rfl) rfl rfl rfl rfl rfl ?_
  refine .assign (.no rfl) rfl rfl rfl rfl ?_
  exact .fin k7 (.of (.cons rfl (.cons rfl (.cons rfl (.cons rfl .nil)))) (.cons rfl .nil))
 intro g8
 refine .seq ?_
 refine .seq ?_
 refine .reg (X := Unit) (fun ζ => .of [(1, .one (.d (.sl false 77 3 (List.map Env.c77 (a))))), (2, .one (.d (.sl false 77 3 (List.map Env.c77 (b))))), (3, .one (.d (.sl false 2 1 (List.map i64c (l))))), (23, .one (.d (.v (.bool (((!(Table.ok d a) || !(Table.ok d b)) || decide ((l.length : Int) > 100)))))))] []) [⟨[4], some 9, [[4]], []⟩, ⟨[1], some 10, [], []⟩, ⟨[9, 10], some 11, [], []⟩, ⟨[11], some 12, [], []⟩, ⟨[12], some 13, [], []⟩, ⟨[13, 4], some 14, [[4]], []⟩, ⟨[13, 2], some 15, [], []⟩, ⟨[13, 14, 15], some 16, [], []⟩, ⟨[13, 16], some 17, [], []⟩, ⟨[13, 17], some 18, [], []⟩, ⟨[18], some 19, [], []⟩, ⟨[19, 3], some 20, [], []⟩, ⟨[19, 20], some 21, [], []⟩, ⟨[19, 21], some 22, [], []⟩, ⟨[19, 22], some 23, [], []⟩] (fun k9 => ?_) ?_
 ·skip
  refine .load (.no rfl) rfl t38 rfl rfl (.ptr _ _ _ _ _ rfl) rfl rfl rfl rfl ?_
  refine .move (.no rfl) rfl rfl rfl rfl ?_
  refine .call (.no rfl) rfl [] [] (c_sTableOk d a (by first | assumption | exact hx.2 | exact hy.2 | exact ⟨(Table.fit (Table.ok_in c0.1.1) (Table.ok_in c0.1.2)).1, hx.1⟩ | exact (Table.fit (Table.ok_in c0.1.1) (Table.ok_in c0.1.2)).2) (by first | assumption | exact hx.2 | exact hy.2 | exact ⟨(Table.fit (Table.ok_in c0.1.1) (Table.ok_in c0.1.2)).1, hx.1⟩ | exact (Table.fit (Table.ok_in c0.1.1) (Table.ok_in c0.1.2)).2) (by first | assumption | exact hx.2 | exact hy.2 | exact ⟨(Table.fit (Table.ok_in c0.1.1) (Table.ok_in c0.1.2)).1, hx.1⟩ | exact (Table.fit (Table.ok_in c0.1.1) (Table.ok_in c0.1.2)).2)) rfl rfl rfl rfl rfl (.cons (Reads.d _).gives (.cons (Reads.d _).gives (.cons (Reads.d _).gives (.cons (Reads.d _).gives .nil)))) rfl rfl (fun h => absurd rfl h) (.own [11, 0] .nil) (.nil) rfl rfl rfl (by simp) rfl rfl rfl ?_
  refine .un (.no rfl) rfl rfl rfl rfl rfl ?_
  refine .moveB (.no rfl) rfl rfl rfl rfl fun b10 g1_4 => ?_
  cases b10
  ·skip
   refine .load (.on rfl rfl rfl rfl rfl) rfl t38 rfl rfl (.ptr _ _ _ _ _ rfl) rfl rfl rfl rfl ?_
   refine .move (.on rfl rfl rfl rfl rfl) rfl rfl rfl rfl ?_
   refine .call (.on rfl rfl rfl rfl rfl) rfl [] [] (c_sTableOk d b (by first | assumption | exact hx.2 | exact hy.2 | exact ⟨(Table.fit (Table.ok_in c0.1.1) (Table.ok_in c0.1.2)).1, hx.1⟩ | exact (Table.fit (Table.ok_in c0.1.1) (Table.ok_in c0.1.2)).2) (by first | assumption | exact hx.2 | exact hy.2 | exact ⟨(Table.fit (Table.ok_in c0.1.1) (Table.ok_in c0.1.2)).1, hx.1⟩ | exact (Table.fit (Table.ok_in c0.1.1) (Table.ok_in c0.1.2)).2) (by first | assumption | exact hx.2 | exact hy.2 | exact ⟨(Table.fit (Table.ok_in c0.1.1) (Table.ok_in c0.1.2)).1, hx.1⟩ | exact (Table.fit (Table.ok_in c0.1.1) (Table.ok_in c0.1.2)).2)) rfl rfl rfl rfl rfl (.cons (Reads.d _).gives (.cons (Reads.d _).gives (.cons (Reads.d _).gives (.cons (Reads.d _).gives .nil)))) rfl rfl (fun h => absurd rfl h) (.own [16, 0] .nil) (.nil) rfl rfl rfl (by simp) rfl rfl rfl ?_
   refine .un (.on rfl rfl rfl rfl rfl) rfl rfl rfl rfl rfl ?_
   refine .pick (.no rfl) rfl rfl rfl rfl rfl ?_
   refine .moveB (.no rfl) rfl rfl rfl rfl fun b11 g1_10 => ?_
   cases b11
   ·skip
    refine .move (.on rfl rfl rfl rfl rfl) rfl rfl rfl rfl ?_
    refine .len (.on rfl rfl rfl rfl rfl) rfl (z := (l.length : Int)) t27 rfl rfl rfl (.d _ _) (map_len _ _) rfl ?_
    refine .bin (.on rfl rfl rfl rfl rfl) rfl rfl rfl rfl rfl rfl ?_
    refine .pick (.no rfl) rfl rfl rfl rfl rfl ?_
    exact .fin () (.of (.cons rfl (.cons rfl (.cons rfl (.cons (svB (show (decide ((l.length : Int) > 100)) = (((!(Table.ok d a) || !(Table.ok d b)) || decide ((l.length : Int) > 100))) by first | (simp only [g1_4, g1_10, Bool.true_or, Bool.false_or, Bool.true_and, Bool.false_and, Bool.not_true, Bool.not_false]; done) | simp [g1_4, g1_10])) .nil)))) .nil)
   ·skip
    refine .off rfl rfl rfl rfl rfl rfl rfl ?_
    refine .off rfl rfl rfl rfl rfl rfl rfl ?_
    refine .off rfl rfl rfl rfl rfl rfl rfl ?_
    refine .pick (.no rfl) rfl rfl rfl rfl rfl ?_
    exact .fin () (.of (.cons rfl (.cons rfl (.cons rfl (.cons (svB (show (true) = (((!(Table.ok d a) || !(Table.ok d b)) || decide ((l.length : Int) > 100))) by first | (simp only [g1_4, g1_10, Bool.true_or, Bool.false_or, Bool.true_and, Bool.false_and, Bool.not_true, Bool.not_false]; done) | simp [g1_4, g1_10])) .nil)))) .nil)
  ·skip
   refine .off rfl rfl rfl rfl rfl rfl rfl ?_
   refine .off rfl rfl rfl rfl rfl rfl rfl ?_
   refine .off rfl rfl rfl rfl rfl rfl rfl ?_
   refine .off rfl rfl rfl rfl rfl rfl rfl ?_
   refine .pick (.no rfl) rfl rfl rfl rfl rfl ?_
   refine .move (.no rfl) rfl rfl rfl rfl ?_
   refine .off rfl rfl rfl rfl rfl rfl rfl ?_
   refine .off rfl rfl rfl rfl rfl rfl rfl ?_
   refine .off rfl rfl rfl rfl rfl rfl rfl ?_
   refine .pick (.no rfl) rfl rfl rfl rfl rfl ?_
   exact .fin () (.of (.cons rfl (.cons rfl (.cons rfl (.cons (svB (show (true) = (((!(Table.ok d a) || !(Table.ok d b)) || decide ((l.length : Int) > 100))) by first | (simp only [g1_4, Bool.true_or, Bool.false_or, Bool.true_and, Bool.false_and, Bool.not_true, Bool.not_false]; done) | simp [g1_4])) .nil)))) .nil)
 intro _
 refine .cond (t := ((!(Table.ok d a) || !(Table.ok d b)) || decide ((l.length : Int) > 100))) rfl (fun c0 => ?_) (fun c0 => ?_)
 ·have c0 := c0
  try simp only [Bool.or_eq_true, Bool.or_eq_false_iff, Bool.and_eq_true, Bool.and_eq_false_iff, decide_eq_true_eq, decide_eq_false_iff_not, Bool.not_eq_true', Bool.not_eq_false', bne_iff_ne, beq_iff_eq, bne_eq_false_iff_eq, beq_eq_false_iff_ne, ne_eq, Bool.not_eq_eq_eq_not, Bool.not_true, Bool.not_false] at c0
  refine .seq ?_
  refine .reg (X := Unit) (fun ζ => .of [(8, .one (.d (.v (.slice none 0 0))))] []) [⟨[], some 8, [], []⟩] (fun k12 => ?_) ?_
  ·skip
   refine .assign (.no rfl) rfl rfl rfl rfl ?_
   exact .fin () (.of (.cons rfl .nil) .nil)
  intro _
  refine .ret ?_
  show _ ∧ _
  exact ⟨.inr rfl, .done ⟨_, [], [], _, .one rfl .nil, .cons (Gives.nil' (by (rw [Table.widenIn_no c0]; rfl))) .nil, nodupB_ok rfl, by simp, (by simp)⟩⟩
 ·have c0 := c0
  try simp only [Bool.or_eq_true, Bool.or_eq_false_iff, Bool.and_eq_true, Bool.and_eq_false_iff, decide_eq_true_eq, decide_eq_false_iff_not, Bool.not_eq_true', Bool.not_eq_false', bne_iff_ne, beq_iff_eq, bne_eq_false_iff_eq, beq_eq_false_iff_ne, ne_eq, Bool.not_eq_eq_eq_not, Bool.not_true, Bool.not_false] at c0
  refine .skip ?_
  refine .seq ?_
  refine .reg (X := Nat) (fun ζ => .of [(8, .one (.ref [27, 0] (ζ)))] [([27, 0], (ζ, ζ, .row 77 3 (List.map Env.co77 (zip2 (Env.joinW (fun x y => Iv.widenOk l x y)) a b))))]) [⟨[1], some 24, [], []⟩, ⟨[2], some 25, [], []⟩, ⟨[3], some 26, [], []⟩, ⟨[24, 25, 26], some 27, [], [[27, 0]]⟩, ⟨[27], some 8, [], []⟩] (fun k13 => ?_) ?_
  ·skip
   refine .move (.no rfl) rfl rfl rfl rfl ?_
   refine .move (.no rfl) rfl rfl rfl rfl ?_
   refine .move (.no rfl) rfl rfl rfl rfl ?_
   refine .call (.no rfl) rfl [] [] (c_l8Widen a b l (by first | assumption | exact hx.2 | exact hy.2 | exact ⟨(Table.fit (Table.ok_in c0.1.1) (Table.ok_in c0.1.2)).1, hx.1⟩ | exact (Table.fit (Table.ok_in c0.1.1) (Table.ok_in c0.1.2)).2) (by first | assumption | exact hx.2 | exact hy.2 | exact ⟨(Table.fit (Table.ok_in c0.1.1) (Table.ok_in c0.1.2)).1, hx.1⟩ | exact (Table.fit (Table.ok_in c0.1.1) (Table.ok_in c0.1.2)).2) (by first | assumption | exact hx.2 | exact hy.2 | exact ⟨(Table.fit (Table.ok_in c0.1.1) (Table.ok_in c0.1.2)).1, hx.1⟩ | exact (Table.fit (Table.ok_in c0.1.1) (Table.ok_in c0.1.2)).2) (by first | assumption | exact hx.2 | exact hy.2 | exact ⟨(Table.fit (Table.ok_in c0.1.1) (Table.ok_in c0.1.2)).1, hx.1⟩ | exact (Table.fit (Table.ok_in c0.1.1) (Table.ok_in c0.1.2)).2)) rfl rfl rfl rfl rfl (.cons (Reads.d _).gives (.cons (Reads.d _).gives (.cons (Reads.d _).gives .nil))) rfl rfl (fun h => absurd rfl h) (.own [27, 0] .nil) (.nil) rfl rfl rfl (by simp) rfl rfl rfl ?_
   refine .assign (.no rfl) rfl rfl rfl rfl ?_
   exact .fin (k13 + 1 + 1 + 1) (.of (.cons rfl .nil) (.cons rfl .nil))
  intro g14
  refine .ret ?_
  have e15 : (zip2 (Env.joinW (fun x y => Iv.widenOk l x y)) a b) = (Table.widenIn d a b l) := by first | (rw [Table.widenIn_no c0]) | (rw [Table.widenIn_yes c0])
  show _ ∧ _
  exact ⟨.inr rfl, .done ⟨_, [], [([27, 0], (g14, g14, .row 77 3 (List.map Env.co77 (Table.widenIn d a b l))))], _, .one rfl .nil, .cons (.ref (.head _)) .nil, nodupB_ok rfl, by simp, (AllH.get (.cons (rowE (congrArg (List.map Env.co77) e15)) .nil))⟩⟩
theorem c_TableWiden (d : Decl) (a : List Env) (b : List Env) (l : List Int) (hs : ∀ x ∈ Decl.names d, x.size ≤ 9223372036854775807) (hd : d.vars.length ≤ 1048576 ∧ d.flags.length ≤ 1048576 ∧ d.arrays.length ≤ 1048576) (hx : Small 1048576 a) (hy : Small 1048576 b) : Trip Tryz.prog 25 [(true, 3), (false, 1), (false, 1), (false, 1)] (Decl.c38 d ++ [.sl false 77 3 (List.map Env.c77 (a))] ++ [.sl false 77 3 (List.map Env.c77 (b))] ++ [.sl false 2 1 (List.map i64c (l))]) [(false, 1)] [.sl true 77 3 (List.map Env.co77 (Table.widenIn d a b l))] [] := by
 refine Trip.of Tryz.func25 (by decide) (c := _) rfl rfl (shB_ok rfl) (Nat.le_of_ble_eq_true rfl) rfl (AftOk.nil _) ?_
 refine .satA (t := 0) (i := 0) rfl rfl (fun hs1 => ?_)
 have hs1l : d.vars.length ≤ 9223372036854775807 := hs1.maplen
 refine .satA (t := 0) (i := 1) rfl rfl (fun hs2 => ?_)
 have hs2l : d.flags.length ≤ 9223372036854775807 := hs2.maplen
 refine .satA (t := 0) (i := 2) rfl rfl (fun hs3 => ?_)
 have hs3l : d.arrays.length ≤ 9223372036854775807 := hs3.maplen
 refine .sat (t := 1) rfl (fun hs4 => ?_)
 have hs4l : a.length ≤ 9223372036854775807 := hs4.maplen
 refine .sat (t := 2) rfl (fun hs5 => ?_)
 have hs5l : b.length ≤ 9223372036854775807 := hs5.maplen
 refine .sat (t := 3) rfl (fun hs6 => ?_)
 have hs6l : l.length ≤ 9223372036854775807 := hs6.maplen
 refine .seq ?_
 refine .reg (X := Nat) (fun ζ => .of [(1, .one (.d (.sl false 77 3 (List.map Env.c77 (a))))), (2, .one (.d (.sl false 77 3 (List.map Env.c77 (b))))), (3, .one (.d (.sl false 2 1 (List.map i64c (l))))), (4, .one (.ptr [4] (ζ) 0))] [([4], (ζ, ζ, .box [.d (.sl false 9 1 (List.map strc (d.vars))), .d (.sl false 9 1 (List.map strc (d.flags))), .d (.sl false 119 2 (List.map Arr.c (d.arrays)))]))]) [⟨[0], some 4, [], [[4]]⟩, ⟨[], some 8, [], []⟩] (fun k7 => ?_) ?_
 ·skip
  refine .box (.no rfl) rfl rfl rfl rfl rfl ?_
  refine .assign (.no rfl) rfl rfl rfl rfl ?_
  exact .fin k7 (.of (.cons rfl (.cons rfl (.cons rfl (.cons rfl .nil)))) (.cons rfl .nil))
 intro g8
 refine .seq ?_
 refine .seq ?_
 refine .reg (X := Unit) (fun ζ => .of [(1, .one (.d (.sl false 77 3 (List.map Env.c77 (a))))), (2, .one (.d (.sl false 77 3 (List.map Env.c77 (b))))), (3, .one (.d (.sl false 2 1 (List.map i64c (l))))), (18, .one (.d (.v (.bool ((!(Table.ok d a && Table.isIn d b) || decide ((l.length : Int) > 100)))))))] []) [⟨[4], some 9, [[4]], []⟩, ⟨[1], some 10, [], []⟩, ⟨[2], some 11, [], []⟩, ⟨[9, 10, 11], some 12, [], []⟩, ⟨[12], some 13, [], []⟩, ⟨[13], some 14, [], []⟩, ⟨[14, 3], some 15, [], []⟩, ⟨[14, 15], some 16, [], []⟩, ⟨[14, 16], some 17, [], []⟩, ⟨[14, 17], some 18, [], []⟩] (fun k9 => ?_) ?_
 ·skip
  refine .load (.no rfl) rfl t38 rfl rfl (.ptr _ _ _ _ _ rfl) rfl rfl rfl rfl ?_
  refine .move (.no rfl) rfl rfl rfl rfl ?_
  refine .move (.no rfl) rfl rfl rfl rfl ?_
  refine .call (.no rfl) rfl [] [] (c_areTables d a b (by first | assumption | exact hx.2 | exact hy.2 | exact ⟨(Table.fit (Table.ok_in c0.1.1) c0.1.2).1, hx.1⟩ | exact (Table.fit (Table.ok_in c0.1.1) c0.1.2).2) (by first | assumption | exact hx.2 | exact hy.2 | exact ⟨(Table.fit (Table.ok_in c0.1.1) c0.1.2).1, hx.1⟩ | exact (Table.fit (Table.ok_in c0.1.1) c0.1.2).2)) rfl rfl rfl rfl rfl (.cons (Reads.d _).gives (.cons (Reads.d _).gives (.cons (Reads.d _).gives (.cons (Reads.d _).gives (.cons (Reads.d _).gives .nil))))) rfl rfl (fun h => absurd rfl h) (.own [12, 0] .nil) (.nil) rfl rfl rfl (by simp) rfl rfl rfl ?_
  refine .un (.no rfl) rfl rfl rfl rfl rfl ?_
  refine .moveB (.no rfl) rfl rfl rfl rfl fun b10 g1_5 => ?_
  cases b10
  ·skip
   refine .move (.on rfl rfl rfl rfl rfl) rfl rfl rfl rfl ?_
   refine .len (.on rfl rfl rfl rfl rfl) rfl (z := (l.length : Int)) t27 rfl rfl rfl (.d _ _) (map_len _ _) rfl ?_
   refine .bin (.on rfl rfl rfl rfl rfl) rfl rfl rfl rfl rfl rfl ?_
   refine .pick (.no rfl) rfl rfl rfl rfl rfl ?_
   exact .fin () (.of (.cons rfl (.cons rfl (.cons rfl (.cons (svB (show (decide ((l.length : Int) > 100)) = ((!(Table.ok d a && Table.isIn d b) || decide ((l.length : Int) > 100))) by first | (simp only [g1_5, Bool.true_or, Bool.false_or, Bool.true_and, Bool.false_and, Bool.not_true, Bool.not_false]; done) | simp [g1_5])) .nil)))) .nil)
  ·skip
   refine .off rfl rfl rfl rfl rfl rfl rfl ?_
   refine .off rfl rfl rfl rfl rfl rfl rfl ?_
   refine .off rfl rfl rfl rfl rfl rfl rfl ?_
   refine .pick (.no rfl) rfl rfl rfl rfl rfl ?_
   exact .fin () (.of (.cons rfl (.cons rfl (.cons rfl (.cons (svB (show (true) = ((!(Table.ok d a && Table.isIn d b) || decide ((l.length : Int) > 100))) by first | (simp only [g1_5, Bool.true_or, Bool.false_or, Bool.true_and, Bool.false_and, Bool.not_true, Bool.not_false]; done) | simp [g1_5])) .nil)))) .nil)
 intro _
 refine .cond (t := (!(Table.ok d a && Table.isIn d b) || decide ((l.length : Int) > 100))) rfl (fun c0 => ?_) (fun c0 => ?_)
 ·have c0 := c0
  try simp only [Bool.or_eq_true, Bool.or_eq_false_iff, Bool.and_eq_true, Bool.and_eq_false_iff, decide_eq_true_eq, decide_eq_false_iff_not, Bool.not_eq_true', Bool.not_eq_false', bne_iff_ne, beq_iff_eq, bne_eq_false_iff_eq, beq_eq_false_iff_ne, ne_eq, Bool.not_eq_eq_eq_not, Bool.not_true, Bool.not_false] at c0
  refine .seq ?_
  refine .reg (X := Unit) (fun ζ => .of [(8, .one (.d (.v (.slice none 0 0))))] []) [⟨[], some 8, [], []⟩] (fun k11 => ?_) ?_
  ·skip
   refine .assign (.no rfl) rfl rfl rfl rfl ?_
   exact .fin () (.of (.cons rfl .nil) .nil)
  intro _
  refine .ret ?_
  show _ ∧ _
  exact ⟨.inr rfl, .done ⟨_, [], [], _, .one rfl .nil, .cons (Gives.nil' (by (rw [Table.widenIn_no2 c0]; rfl))) .nil, nodupB_ok rfl, by simp, (by simp)⟩⟩
 ·have c0 := c0
  try simp only [Bool.or_eq_true, Bool.or_eq_false_iff, Bool.and_eq_true, Bool.and_eq_false_iff, decide_eq_true_eq, decide_eq_false_iff_not, Bool.not_eq_true', Bool.not_eq_false', bne_iff_ne, beq_iff_eq, bne_eq_false_iff_eq, beq_eq_false_iff_ne, ne_eq, Bool.not_eq_eq_eq_not, Bool.not_true, Bool.not_false] at c0
  refine .skip ?_
  refine .seq ?_
  refine .reg (X := Nat) (fun ζ => .of [(8, .one (.ref [23, 0] (ζ)))] [([23, 0], (ζ, ζ, .row 77 3 (List.map Env.co77 (zip2 (Env.joinW (fun x0 x1 => Iv.widenOk l x0 x1)) a b))))]) [⟨[1], some 19, [], []⟩, ⟨[2], some 20, [], []⟩, ⟨[3], some 21, [], []⟩, ⟨[21], some 22, [], []⟩, ⟨[19, 20, 22], some 23, [], [[23, 0]]⟩, ⟨[23], some 8, [], []⟩] (fun k12 => ?_) ?_
  ·skip
   refine .move (.no rfl) rfl rfl rfl rfl ?_
   refine .move (.no rfl) rfl rfl rfl rfl ?_
   refine .move (.no rfl) rfl rfl rfl rfl ?_
   refine .call (.no rfl) rfl [] [] (c_widening l) rfl rfl rfl rfl rfl (.cons (Reads.d _).gives .nil) rfl rfl (fun h => absurd rfl h) (.own [22, 0] .nil) (.nil) rfl rfl rfl (by simp) rfl rfl rfl ?_
   refine .call (.no rfl) rfl [] [] (c_tableWith a b 109 [] [.pt false [.sl false 2 1 (List.map i64c (l))]] (fun x0 x1 => Iv.widenOk l x0 x1) (fun x0 x1 => c_widening1 x0 x1 l) (by first | assumption | exact hx.2 | exact hy.2 | exact ⟨(Table.fit (Table.ok_in c0.1.1) c0.1.2).1, hx.1⟩ | exact (Table.fit (Table.ok_in c0.1.1) c0.1.2).2) (by first | assumption | exact hx.2 | exact hy.2 | exact ⟨(Table.fit (Table.ok_in c0.1.1) c0.1.2).1, hx.1⟩ | exact (Table.fit (Table.ok_in c0.1.1) c0.1.2).2) (by first | assumption | exact hx.2 | exact hy.2 | exact ⟨(Table.fit (Table.ok_in c0.1.1) c0.1.2).1, hx.1⟩ | exact (Table.fit (Table.ok_in c0.1.1) c0.1.2).2) (by first | assumption | exact hx.2 | exact hy.2 | exact ⟨(Table.fit (Table.ok_in c0.1.1) c0.1.2).1, hx.1⟩ | exact (Table.fit (Table.ok_in c0.1.1) c0.1.2).2)) rfl rfl rfl rfl rfl (.cons (Reads.d _).gives (.cons (Reads.d _).gives (.cons (Reads.d _).gives .nil))) rfl rfl (fun h => absurd rfl h) (.own [23, 0] .nil) (.nil) rfl rfl rfl (by simp) rfl rfl rfl ?_
   refine .assign (.no rfl) rfl rfl rfl rfl ?_
   exact .fin (k12 + 1 + 1 + 1 + 1) (.of (.cons rfl .nil) (.cons rfl .nil))
  intro g13
  refine .ret ?_
  have e14 : (zip2 (Env.joinW (fun x0 x1 => Iv.widenOk l x0 x1)) a b) = (Table.widenIn d a b l) := by first | (rw [Table.widenIn_no2 c0]) | (rw [Table.widenIn_yes2 c0])
  show _ ∧ _
  exact ⟨.inr rfl, .done ⟨_, [], [([23, 0], (g13, g13, .row 77 3 (List.map Env.co77 (Table.widenIn d a b l))))], _, .one rfl .nil, .cons (.ref (.head _)) .nil, nodupB_ok rfl, by simp, (AllH.get (.cons (rowE (congrArg (List.map Env.co77) e14)) .nil))⟩⟩
end Go.Proofs

namespace Go.Proofs
open Go Go.Proofs Go.Ev

theorem c_markEnvS (a : List Env) (k : Int) (hk : 0 ≤ k ∧ k ≤ 1125899906842624) (hx : Small 1048576 a) : Trip Tryz.prog 28 [(false, 1), (false, 1)] ([.sl true 77 3 (List.map Env.co77 (a))] ++ [.v (.int .i64 (k))]) [(false, 1)] [.v (.int .i64 (EnvS.marks k a))] [(0, .sl true 77 3 (List.map Env.co77 (EnvS.mark k a)))] := by
 refine Trip.of Tryz.func28 (by decide) (c := _) rfl rfl (shB_ok rfl) (Nat.le_of_ble_eq_true rfl) rfl (AftOk.sl rfl (AftOk.nil _)) ?_
 refine .seq ?_
 refine .reg (X := Unit) (fun ζ => .of [(0, .one (.ref [0, 0, 0] (0))), (1, .one (.d (.v (.int .i64 (k)))))] [([0, 0, 0], (0, 0, .row 77 3 (List.map Env.co77 (a))))]) [⟨[], some 4, [], []⟩] (fun k1 => ?_) ?_
 ·skip
  refine .assign (.no rfl) rfl rfl rfl rfl ?_
  exact .fin () (.of (.cons rfl (.cons rfl .nil)) (.cons rfl .nil))
 intro _
 refine .seq ?_
 refine .seq ?_
 refine .reg (X := Unit) (fun ζ => .of [(0, .one (.ref [0, 0, 0] (0))), (1, .one (.d (.v (.int .i64 (k))))), (5, .one (.d (.v (.int .i64 (0)))))] [([0, 0, 0], (0, 0, .row 77 3 (List.map Env.co77 (a))))]) [⟨[], some 5, [], []⟩] (fun k2 => ?_) ?_
 ·skip
  refine .assign (.no rfl) rfl rfl rfl rfl ?_
  exact .fin () (.of (.cons rfl (.cons rfl (.cons rfl .nil))) (.cons rfl .nil))
 intro _
 refine .block ?_
 refine .loop (X := Nat × Nat) (fun ζ => .of [(0, .one (.ref [0, 0, 0] (0))), (1, .one (.d (.v (.int .i64 (EnvS.at k a ζ.1))))), (5, .one (.d (.v (.int .i64 ((ζ.1 : Int))))))] [([0, 0, 0], (0, ζ.2, .row 77 3 (List.map Env.co77 (mkTo (EnvS.mk k a) a ζ.1))))]) (fun ζ => ζ.1 ≤ a.length) (fun ζ => a.length - ζ.1) ?_ ?_
 ·skip
  exact .here (0, 0) (.of (.cons rfl (.cons (svI (show (k) = (EnvS.at k a 0) by first | rfl | omega | exact (EnvS.at_zero k a).symm | (have hl9 : j < (mkTo (EnvS.mk k a) a j).length := (by rw [mkTo_len]; omega); have hr9 := EnvS.round (k := k) (a := a) (j := j) (by omega) rfl rfl rfl (wrap_le (a := EnvS.at k a j + 1) (by omega) (by omega)) rfl rfl; exact hr9.2) | exact wrap_le (by omega) (by omega))) (.cons (svI (show (0) = ((0 : Int)) by first | rfl | omega | exact (EnvS.at_zero k a).symm | (have hl9 : j < (mkTo (EnvS.mk k a) a j).length := (by rw [mkTo_len]; omega); have hr9 := EnvS.round (k := k) (a := a) (j := j) (by omega) rfl rfl rfl (wrap_le (a := EnvS.at k a j + 1) (by omega) (by omega)) rfl rfl; exact hr9.2) | exact wrap_le (by omega) (by omega))) .nil))) (.cons (rowE (show List.map Env.co77 (a) = List.map Env.co77 (mkTo (EnvS.mk k a) a 0) by first | (rw [← mkTo_zero]) | (have hl9 : j < (mkTo (EnvS.mk k a) a j).length := (by rw [mkTo_len]; omega); have hr9 := EnvS.round (k := k) (a := a) (j := j) (by omega) rfl rfl rfl (wrap_le (a := EnvS.at k a j + 1) (by omega) (by omega)) rfl rfl; exact congrArg _ hr9.1))) .nil)) (show 0 ≤ a.length by omega)
 ·rintro ⟨j, q3⟩ hI
  have hI : j ≤ a.length := hI
  have hA9 : a.length ≤ 1048576 := hx.1
  have hb9 := EnvS.bnd (k := k) hx (j := j) (by omega) hk
  have hE9 : j < a.length → (a.getD j default).ints.length ≤ 1048576 ∧ (a.getD j default).arrs.length ≤ 1048576 := fun h => hx.2 _ (getD_mem h)
  have hL : (mkTo (EnvS.mk k a) a j).length = a.length := mkTo_len _ _ _
  refine .seq ?_
  refine .seq ?_
  refine .reg (X := Unit) (fun ζ => .of [(0, .one (.ref [0, 0, 0] (0))), (1, .one (.d (.v (.int .i64 (EnvS.at k a j))))), (5, .one (.d (.v (.int .i64 ((j : Int)))))), (9, .one (.d (.v (.bool (decide ((j : Int) < ((mkTo (EnvS.mk k a) a j).length : Int)))))))] [([0, 0, 0], (0, q3, .row 77 3 (List.map Env.co77 (mkTo (EnvS.mk k a) a j))))]) [⟨[5], some 6, [], []⟩, ⟨[0], some 7, [], []⟩, ⟨[7], some 8, [[0, 0, 0]], []⟩, ⟨[6, 8], some 9, [], []⟩] (fun k4 => ?_) ?_
  ·skip
   refine .move (.no rfl) rfl rfl rfl rfl ?_
   refine .move (.no rfl) rfl rfl rfl rfl ?_
   refine .len (.no rfl) rfl (z := ((mkTo (EnvS.mk k a) a j).length : Int)) t40 rfl rfl rfl (.ref _ _ _ _ _ rfl) (map_len _ _) rfl ?_
   refine .bin (.no rfl) rfl rfl rfl rfl rfl rfl ?_
   exact .fin () (.of (.cons rfl (.cons rfl (.cons rfl (.cons rfl .nil)))) (.cons rfl .nil))
  intro _
  refine .cond (t := decide ((j : Int) < ((mkTo (EnvS.mk k a) a j).length : Int))) rfl (fun c0 => ?_) (fun c0 => ?_)
  ·have c0 := of_decide_eq_true c0
   refine .skip ?_
   refine .seq ?_
   refine .block ?_
   refine .seq ?_
   refine .reg (X := Nat) (fun ζ => .of [(0, .one (.ref [0, 0, 0] (0))), (1, .one (.d (.v (.int .i64 (EnvS.at k a j))))), (5, .one (.d (.v (.int .i64 ((j : Int))))))] [([0, 0, 0], (0, ζ, .row 77 3 (List.map Env.co77 ((mkTo (EnvS.mk k a) a j).set j (Env.mk ((Int.tmod (EnvS.at k a j) 3) == 0) (((mkTo (EnvS.mk k a) a j).getD (j) default).ints) (((mkTo (EnvS.mk k a) a j).getD (j) default).arrs))))))]) [⟨[0], some 12, [], []⟩, ⟨[5], some 13, [], []⟩, ⟨[1], some 14, [], []⟩, ⟨[14], some 15, [], []⟩, ⟨[15], some 16, [], []⟩, ⟨[12, 13], some 17, [[0, 0, 0]], []⟩, ⟨[17], some 18, [], []⟩, ⟨[18, 16], none, [[0, 0, 0]], [[0, 0, 0]]⟩] (fun k5 => ?_) ?_
   ·skip
    refine .move (.no rfl) rfl rfl rfl rfl ?_
    refine .move (.no rfl) rfl rfl rfl rfl ?_
    refine .move (.no rfl) rfl rfl rfl rfl ?_
    refine .quoRem (.no rfl) rfl (.inr ⟨rfl, rfl⟩) rfl rfl rfl rfl rfl ?_
    refine .bin (.no rfl) rfl rfl rfl rfl rfl rfl ?_
    refine .indexAddr (.no rfl) rfl (j) t40 rfl t77 rfl rfl rfl (.ref _ _ _ _ _ rfl) rfl rfl rfl (map_get (by first | omega | (simp only [List.length_set, mkTo_len]; omega))) rfl rfl ?_
    refine .fieldAddr (.no rfl) rfl t77 rfl rfl t4 rfl rfl rfl rfl [] (by simp) (by intro _ _ _ h; cases h) rfl rfl ?_
    refine .storeE (.no rfl) rfl (els' := List.map Env.co77 ((mkTo (EnvS.mk k a) a j).set j (Env.mk ((Int.tmod (EnvS.at k a j) 3) == 0) (((mkTo (EnvS.mk k a) a j).getD (j) default).ints) (((mkTo (EnvS.mk k a) a j).getD (j) default).arrs)))) t4 rfl rfl rfl rfl (map_get (by first | omega | (simp only [List.length_set, mkTo_len]; omega))) rfl rfl (.cons _ _ _ _ _ _ (.d _) .nil) rfl (Nat.le_of_ble_eq_true rfl) (set_map _ _ _ (Env.mk ((Int.tmod (EnvS.at k a j) 3) == 0) (((mkTo (EnvS.mk k a) a j).getD (j) default).ints) (((mkTo (EnvS.mk k a) a j).getD (j) default).arrs)) _ rfl) rfl rfl ?_
    exact .fin (k5 + 1 + 1 + 1 + 1 + 1 + 1 + 1) (.of (.cons rfl (.cons rfl (.cons rfl .nil))) (.cons rfl .nil))
   intro g6
   refine .seq ?_
   refine .reg (X := Unit) (fun ζ => .of [(0, .one (.ref [0, 0, 0] (0))), (1, .one (.d (.v (.int .i64 (IntKind.wrap .i64 ((EnvS.at k a j) + 1)))))), (5, .one (.d (.v (.int .i64 ((j : Int))))))] [([0, 0, 0], (0, g6, .row 77 3 (List.map Env.co77 ((mkTo (EnvS.mk k a) a j).set j (Env.mk ((Int.tmod (EnvS.at k a j) 3) == 0) (((mkTo (EnvS.mk k a) a j).getD (j) default).ints) (((mkTo (EnvS.mk k a) a j).getD (j) default).arrs))))))]) [⟨[1], some 19, [], []⟩, ⟨[19], some 20, [], []⟩, ⟨[20], some 1, [], []⟩] (fun k7 => ?_) ?_
   ·skip
    refine .move (.no rfl) rfl rfl rfl rfl ?_
    refine .bin (.no rfl) rfl rfl rfl rfl rfl rfl ?_
    refine .assign (.no rfl) rfl rfl rfl rfl ?_
    exact .fin () (.of (.cons rfl (.cons rfl (.cons rfl .nil))) (.cons rfl .nil))
   intro _
   refine .seq ?_
   refine .reg (X := Nat) (fun ζ => .of [(0, .one (.ref [0, 0, 0] (0))), (1, .one (.d (.v (.int .i64 ((IntKind.wrap .i64 ((EnvS.at k a j) + 1)) + 2 * (((((mkTo (EnvS.mk k a) a j).set j (Env.mk ((Int.tmod (EnvS.at k a j) 3) == 0) (((mkTo (EnvS.mk k a) a j).getD (j) default).ints) (((mkTo (EnvS.mk k a) a j).getD (j) default).arrs))).getD (j) default).ints).length : Int)))))), (5, .one (.d (.v (.int .i64 ((j : Int))))))] [([0, 0, 0], (0, ζ, .row 77 3 (List.map Env.co77 (((mkTo (EnvS.mk k a) a j).set j (Env.mk ((Int.tmod (EnvS.at k a j) 3) == 0) (((mkTo (EnvS.mk k a) a j).getD (j) default).ints) (((mkTo (EnvS.mk k a) a j).getD (j) default).arrs))).set j (Env.mk ((((mkTo (EnvS.mk k a) a j).set j (Env.mk ((Int.tmod (EnvS.at k a j) 3) == 0) (((mkTo (EnvS.mk k a) a j).getD (j) default).ints) (((mkTo (EnvS.mk k a) a j).getD (j) default).arrs))).getD (j) default).live) (mkAll (mIv (IntKind.wrap .i64 ((EnvS.at k a j) + 1))) ((((mkTo (EnvS.mk k a) a j).set j (Env.mk ((Int.tmod (EnvS.at k a j) 3) == 0) (((mkTo (EnvS.mk k a) a j).getD (j) default).ints) (((mkTo (EnvS.mk k a) a j).getD (j) default).arrs))).getD (j) default).ints)) ((((mkTo (EnvS.mk k a) a j).set j (Env.mk ((Int.tmod (EnvS.at k a j) 3) == 0) (((mkTo (EnvS.mk k a) a j).getD (j) default).ints) (((mkTo (EnvS.mk k a) a j).getD (j) default).arrs))).getD (j) default).arrs))))))]) [⟨[0], some 21, [], []⟩, ⟨[5], some 22, [], []⟩, ⟨[21, 22], some 23, [[0, 0, 0]], []⟩, ⟨[23], some 24, [], []⟩, ⟨[24], some 25, [[0, 0, 0]], []⟩, ⟨[1], some 26, [], []⟩, ⟨[25, 26], some 27, [[0, 0, 0]], [[0, 0, 0]]⟩, ⟨[27], some 1, [], []⟩] (fun k8 => ?_) ?_
   ·skip
    refine .move (.no rfl) rfl rfl rfl rfl ?_
    refine .move (.no rfl) rfl rfl rfl rfl ?_
    refine .indexAddr (.no rfl) rfl (j) t40 rfl t77 rfl rfl rfl (.ref _ _ _ _ _ rfl) rfl rfl rfl (map_get (by first | omega | (simp only [List.length_set, mkTo_len]; omega))) rfl rfl ?_
    refine .fieldAddr (.no rfl) rfl t77 rfl rfl t75 rfl rfl rfl rfl [] (by simp) (by intro _ _ _ h; cases h) rfl rfl ?_
    refine .load (.no rfl) rfl t75 rfl rfl (At.as (cs' := [.part [0, 0, 0] (0) (g6) (j) 1, .part [0, 0, 0] (0) (g6) (j) 2]) (.lent _ _ _ _ _ _ _ _ _ rfl (map_get (by first | omega | (simp only [List.length_set, mkTo_len]; omega)))) (by simp [Env.co77, D.lent, erase_slo _ _ _ _ _ _ Iv.c_e, erase_slo _ _ _ _ _ _ Iv.c_e])) rfl rfl rfl rfl ?_
    refine .move (.no rfl) rfl rfl rfl rfl ?_
    refine .lend (.no rfl) rfl (els' := List.map Env.co77 (((mkTo (EnvS.mk k a) a j).set j (Env.mk ((Int.tmod (EnvS.at k a j) 3) == 0) (((mkTo (EnvS.mk k a) a j).getD (j) default).ints) (((mkTo (EnvS.mk k a) a j).getD (j) default).arrs))).set j (Env.mk ((((mkTo (EnvS.mk k a) a j).set j (Env.mk ((Int.tmod (EnvS.at k a j) 3) == 0) (((mkTo (EnvS.mk k a) a j).getD (j) default).ints) (((mkTo (EnvS.mk k a) a j).getD (j) default).arrs))).getD (j) default).live) (mkAll (mIv (IntKind.wrap .i64 ((EnvS.at k a j) + 1))) ((((mkTo (EnvS.mk k a) a j).set j (Env.mk ((Int.tmod (EnvS.at k a j) 3) == 0) (((mkTo (EnvS.mk k a) a j).getD (j) default).ints) (((mkTo (EnvS.mk k a) a j).getD (j) default).arrs))).getD (j) default).ints)) ((((mkTo (EnvS.mk k a) a j).set j (Env.mk ((Int.tmod (EnvS.at k a j) 3) == 0) (((mkTo (EnvS.mk k a) a j).getD (j) default).ints) (((mkTo (EnvS.mk k a) a j).getD (j) default).arrs))).getD (j) default).arrs)))) (c_markIntervalS ((((mkTo (EnvS.mk k a) a j).set j (Env.mk ((Int.tmod (EnvS.at k a j) 3) == 0) (((mkTo (EnvS.mk k a) a j).getD (j) default).ints) (((mkTo (EnvS.mk k a) a j).getD (j) default).arrs))).getD (j) default).ints) (IntKind.wrap .i64 ((EnvS.at k a j) + 1)) (by (have hj8 : j < a.length := (by omega); have hl9 : j < (mkTo (EnvS.mk k a) a j).length := (by rw [mkTo_len]; omega); have hE8 := hE9 hj8; rw [wrap_le (a := EnvS.at k a j + 1) (by omega) (by omega)]; simp only [set_getD, List.length_set, mkTo_len, hl9, hj8, EnvS.get hj8]; (try simp only [mkAll_len]); omega))) rfl rfl rfl rfl (map_get (by first | omega | (simp only [List.length_set, mkTo_len]; omega))) rfl (Owned.map _ _ _ _ Iv.c_o) (by intro d hd; simp at hd; subst hd; exact ⟨_, rfl⟩) rfl rfl (set_map _ _ _ (Env.mk ((((mkTo (EnvS.mk k a) a j).set j (Env.mk ((Int.tmod (EnvS.at k a j) 3) == 0) (((mkTo (EnvS.mk k a) a j).getD (j) default).ints) (((mkTo (EnvS.mk k a) a j).getD (j) default).arrs))).getD (j) default).live) (mkAll (mIv (IntKind.wrap .i64 ((EnvS.at k a j) + 1))) ((((mkTo (EnvS.mk k a) a j).set j (Env.mk ((Int.tmod (EnvS.at k a j) 3) == 0) (((mkTo (EnvS.mk k a) a j).getD (j) default).ints) (((mkTo (EnvS.mk k a) a j).getD (j) default).arrs))).getD (j) default).ints)) ((((mkTo (EnvS.mk k a) a j).set j (Env.mk ((Int.tmod (EnvS.at k a j) 3) == 0) (((mkTo (EnvS.mk k a) a j).getD (j) default).ints) (((mkTo (EnvS.mk k a) a j).getD (j) default).arrs))).getD (j) default).arrs)) _ rfl) rfl rfl ?_
    refine .assign (.no rfl) rfl rfl rfl rfl ?_
    exact .fin (k8 + 1 + 1 + 1 + 1 + 1 + 1) (.of (.cons rfl (.cons rfl (.cons rfl .nil))) (.cons rfl .nil))
   intro g9
   refine .reg (X := Nat) (fun ζ => .of [(0, .one (.ref [0, 0, 0] (0))), (1, .one (.d (.v (.int .i64 (((IntKind.wrap .i64 ((EnvS.at k a j) + 1)) + 2 * (((((mkTo (EnvS.mk k a) a j).set j (Env.mk ((Int.tmod (EnvS.at k a j) 3) == 0) (((mkTo (EnvS.mk k a) a j).getD (j) default).ints) (((mkTo (EnvS.mk k a) a j).getD (j) default).arrs))).getD (j) default).ints).length : Int)) + 2 * ((((((mkTo (EnvS.mk k a) a j).set j (Env.mk ((Int.tmod (EnvS.at k a j) 3) == 0) (((mkTo (EnvS.mk k a) a j).getD (j) default).ints) (((mkTo (EnvS.mk k a) a j).getD (j) default).arrs))).set j (Env.mk ((((mkTo (EnvS.mk k a) a j).set j (Env.mk ((Int.tmod (EnvS.at k a j) 3) == 0) (((mkTo (EnvS.mk k a) a j).getD (j) default).ints) (((mkTo (EnvS.mk k a) a j).getD (j) default).arrs))).getD (j) default).live) (mkAll (mIv (IntKind.wrap .i64 ((EnvS.at k a j) + 1))) ((((mkTo (EnvS.mk k a) a j).set j (Env.mk ((Int.tmod (EnvS.at k a j) 3) == 0) (((mkTo (EnvS.mk k a) a j).getD (j) default).ints) (((mkTo (EnvS.mk k a) a j).getD (j) default).arrs))).getD (j) default).ints)) ((((mkTo (EnvS.mk k a) a j).set j (Env.mk ((Int.tmod (EnvS.at k a j) 3) == 0) (((mkTo (EnvS.mk k a) a j).getD (j) default).ints) (((mkTo (EnvS.mk k a) a j).getD (j) default).arrs))).getD (j) default).arrs))).getD (j) default).arrs).length : Int)))))), (5, .one (.d (.v (.int .i64 ((j : Int))))))] [([0, 0, 0], (0, ζ, .row 77 3 (List.map Env.co77 ((((mkTo (EnvS.mk k a) a j).set j (Env.mk ((Int.tmod (EnvS.at k a j) 3) == 0) (((mkTo (EnvS.mk k a) a j).getD (j) default).ints) (((mkTo (EnvS.mk k a) a j).getD (j) default).arrs))).set j (Env.mk ((((mkTo (EnvS.mk k a) a j).set j (Env.mk ((Int.tmod (EnvS.at k a j) 3) == 0) (((mkTo (EnvS.mk k a) a j).getD (j) default).ints) (((mkTo (EnvS.mk k a) a j).getD (j) default).arrs))).getD (j) default).live) (mkAll (mIv (IntKind.wrap .i64 ((EnvS.at k a j) + 1))) ((((mkTo (EnvS.mk k a) a j).set j (Env.mk ((Int.tmod (EnvS.at k a j) 3) == 0) (((mkTo (EnvS.mk k a) a j).getD (j) default).ints) (((mkTo (EnvS.mk k a) a j).getD (j) default).arrs))).getD (j) default).ints)) ((((mkTo (EnvS.mk k a) a j).set j (Env.mk ((Int.tmod (EnvS.at k a j) 3) == 0) (((mkTo (EnvS.mk k a) a j).getD (j) default).ints) (((mkTo (EnvS.mk k a) a j).getD (j) default).arrs))).getD (j) default).arrs))).set j (Env.mk (((((mkTo (EnvS.mk k a) a j).set j (Env.mk ((Int.tmod (EnvS.at k a j) 3) == 0) (((mkTo (EnvS.mk k a) a j).getD (j) default).ints) (((mkTo (EnvS.mk k a) a j).getD (j) default).arrs))).set j (Env.mk ((((mkTo (EnvS.mk k a) a j).set j (Env.mk ((Int.tmod (EnvS.at k a j) 3) == 0) (((mkTo (EnvS.mk k a) a j).getD (j) default).ints) (((mkTo (EnvS.mk k a) a j).getD (j) default).arrs))).getD (j) default).live) (mkAll (mIv (IntKind.wrap .i64 ((EnvS.at k a j) + 1))) ((((mkTo (EnvS.mk k a) a j).set j (Env.mk ((Int.tmod (EnvS.at k a j) 3) == 0) (((mkTo (EnvS.mk k a) a j).getD (j) default).ints) (((mkTo (EnvS.mk k a) a j).getD (j) default).arrs))).getD (j) default).ints)) ((((mkTo (EnvS.mk k a) a j).set j (Env.mk ((Int.tmod (EnvS.at k a j) 3) == 0) (((mkTo (EnvS.mk k a) a j).getD (j) default).ints) (((mkTo (EnvS.mk k a) a j).getD (j) default).arrs))).getD (j) default).arrs))).getD (j) default).live) (((((mkTo (EnvS.mk k a) a j).set j (Env.mk ((Int.tmod (EnvS.at k a j) 3) == 0) (((mkTo (EnvS.mk k a) a j).getD (j) default).ints) (((mkTo (EnvS.mk k a) a j).getD (j) default).arrs))).set j (Env.mk ((((mkTo (EnvS.mk k a) a j).set j (Env.mk ((Int.tmod (EnvS.at k a j) 3) == 0) (((mkTo (EnvS.mk k a) a j).getD (j) default).ints) (((mkTo (EnvS.mk k a) a j).getD (j) default).arrs))).getD (j) default).live) (mkAll (mIv (IntKind.wrap .i64 ((EnvS.at k a j) + 1))) ((((mkTo (EnvS.mk k a) a j).set j (Env.mk ((Int.tmod (EnvS.at k a j) 3) == 0) (((mkTo (EnvS.mk k a) a j).getD (j) default).ints) (((mkTo (EnvS.mk k a) a j).getD (j) default).arrs))).getD (j) default).ints)) ((((mkTo (EnvS.mk k a) a j).set j (Env.mk ((Int.tmod (EnvS.at k a j) 3) == 0) (((mkTo (EnvS.mk k a) a j).getD (j) default).ints) (((mkTo (EnvS.mk k a) a j).getD (j) default).arrs))).getD (j) default).arrs))).getD (j) default).ints) (mkAll (mIv ((IntKind.wrap .i64 ((EnvS.at k a j) + 1)) + 2 * (((((mkTo (EnvS.mk k a) a j).set j (Env.mk ((Int.tmod (EnvS.at k a j) 3) == 0) (((mkTo (EnvS.mk k a) a j).getD (j) default).ints) (((mkTo (EnvS.mk k a) a j).getD (j) default).arrs))).getD (j) default).ints).length : Int))) (((((mkTo (EnvS.mk k a) a j).set j (Env.mk ((Int.tmod (EnvS.at k a j) 3) == 0) (((mkTo (EnvS.mk k a) a j).getD (j) default).ints) (((mkTo (EnvS.mk k a) a j).getD (j) default).arrs))).set j (Env.mk ((((mkTo (EnvS.mk k a) a j).set j (Env.mk ((Int.tmod (EnvS.at k a j) 3) == 0) (((mkTo (EnvS.mk k a) a j).getD (j) default).ints) (((mkTo (EnvS.mk k a) a j).getD (j) default).arrs))).getD (j) default).live) (mkAll (mIv (IntKind.wrap .i64 ((EnvS.at k a j) + 1))) ((((mkTo (EnvS.mk k a) a j).set j (Env.mk ((Int.tmod (EnvS.at k a j) 3) == 0) (((mkTo (EnvS.mk k a) a j).getD (j) default).ints) (((mkTo (EnvS.mk k a) a j).getD (j) default).arrs))).getD (j) default).ints)) ((((mkTo (EnvS.mk k a) a j).set j (Env.mk ((Int.tmod (EnvS.at k a j) 3) == 0) (((mkTo (EnvS.mk k a) a j).getD (j) default).ints) (((mkTo (EnvS.mk k a) a j).getD (j) default).arrs))).getD (j) default).arrs))).getD (j) default).arrs)))))))]) [⟨[0], some 28, [], []⟩, ⟨[5], some 29, [], []⟩, ⟨[28, 29], some 30, [[0, 0, 0]], []⟩, ⟨[30], some 31, [], []⟩, ⟨[31], some 32, [[0, 0, 0]], []⟩, ⟨[1], some 33, [], []⟩, ⟨[32, 33], some 34, [[0, 0, 0]], [[0, 0, 0]]⟩, ⟨[34], some 1, [], []⟩] (fun k10 => ?_) ?_
   ·skip
    refine .move (.no rfl) rfl rfl rfl rfl ?_
    refine .move (.no rfl) rfl rfl rfl rfl ?_
    refine .indexAddr (.no rfl) rfl (j) t40 rfl t77 rfl rfl rfl (.ref _ _ _ _ _ rfl) rfl rfl rfl (map_get (by first | omega | (simp only [List.length_set, mkTo_len]; omega))) rfl rfl ?_
    refine .fieldAddr (.no rfl) rfl t77 rfl rfl t75 rfl rfl rfl rfl [] (by simp) (by intro _ _ _ h; cases h) rfl rfl ?_
    refine .load (.no rfl) rfl t75 rfl rfl (At.as (cs' := [.part [0, 0, 0] (0) (g9) (j) 2]) (.lent _ _ _ _ _ _ _ _ _ rfl (map_get (by first | omega | (simp only [List.length_set, mkTo_len]; omega)))) (by simp [Env.co77, D.lent, erase_slo _ _ _ _ _ _ Iv.c_e, erase_slo _ _ _ _ _ _ Iv.c_e])) rfl rfl rfl rfl ?_
    refine .move (.no rfl) rfl rfl rfl rfl ?_
    refine .lend (.no rfl) rfl (els' := List.map Env.co77 ((((mkTo (EnvS.mk k a) a j).set j (Env.mk ((Int.tmod (EnvS.at k a j) 3) == 0) (((mkTo (EnvS.mk k a) a j).getD (j) default).ints) (((mkTo (EnvS.mk k a) a j).getD (j) default).arrs))).set j (Env.mk ((((mkTo (EnvS.mk k a) a j).set j (Env.mk ((Int.tmod (EnvS.at k a j) 3) == 0) (((mkTo (EnvS.mk k a) a j).getD (j) default).ints) (((mkTo (EnvS.mk k a) a j).getD (j) default).arrs))).getD (j) default).live) (mkAll (mIv (IntKind.wrap .i64 ((EnvS.at k a j) + 1))) ((((mkTo (EnvS.mk k a) a j).set j (Env.mk ((Int.tmod (EnvS.at k a j) 3) == 0) (((mkTo (EnvS.mk k a) a j).getD (j) default).ints) (((mkTo (EnvS.mk k a) a j).getD (j) default).arrs))).getD (j) default).ints)) ((((mkTo (EnvS.mk k a) a j).set j (Env.mk ((Int.tmod (EnvS.at k a j) 3) == 0) (((mkTo (EnvS.mk k a) a j).getD (j) default).ints) (((mkTo (EnvS.mk k a) a j).getD (j) default).arrs))).getD (j) default).arrs))).set j (Env.mk (((((mkTo (EnvS.mk k a) a j).set j (Env.mk ((Int.tmod (EnvS.at k a j) 3) == 0) (((mkTo (EnvS.mk k a) a j).getD (j) default).ints) (((mkTo (EnvS.mk k a) a j).getD (j) default).arrs))).set j (Env.mk ((((mkTo (EnvS.mk k a) a j).set j (Env.mk ((Int.tmod (EnvS.at k a j) 3) == 0) (((mkTo (EnvS.mk k a) a j).getD (j) default).ints) (((mkTo (EnvS.mk k a) a j).getD (j) default).arrs))).getD (j) default).live) (mkAll (mIv (IntKind.wrap .i64 ((EnvS.at k a j) + 1))) ((((mkTo (EnvS.mk k a) a j).set j (Env.mk ((Int.tmod (EnvS.at k a j) 3) == 0) (((mkTo (EnvS.mk k a) a j).getD (j) default).ints) (((mkTo (EnvS.mk k a) a j).getD (j) default).arrs))).getD (j) default).ints)) ((((mkTo (EnvS.mk k a) a j).set j (Env.mk ((Int.tmod (EnvS.at k a j) 3) == 0) (((mkTo (EnvS.mk k a) a j).getD (j) default).ints) (((mkTo (EnvS.mk k a) a j).getD (j) default).arrs))).getD (j) default).arrs))).getD (j) default).live) (((((mkTo (EnvS.mk k a) a j).set j (Env.mk ((Int.tmod (EnvS.at k a j) 3) == 0) (((mkTo (EnvS.mk k a) a j).getD (j) default).ints) (((mkTo (EnvS.mk k a) a j).getD (j) default).arrs))).set j (Env.mk ((((mkTo (EnvS.mk k a) a j).set j (Env.mk ((Int.tmod (EnvS.at k a j) 3) == 0) (((mkTo (EnvS.mk k a) a j).getD (j) default).ints) (((mkTo (EnvS.mk k a) a j).getD (j) default).arrs))).getD (j) default).live) (mkAll (mIv (IntKind.wrap .i64 ((EnvS.at k a j) + 1))) ((((mkTo (EnvS.mk k a) a j).set j (Env.mk ((Int.tmod (EnvS.at k a j) 3) == 0) (((mkTo (EnvS.mk k a) a j).getD (j) default).ints) (((mkTo (EnvS.mk k a) a j).getD (j) default).arrs))).getD (j) default).ints)) ((((mkTo (EnvS.mk k a) a j).set j (Env.mk ((Int.tmod (EnvS.at k a j) 3) == 0) (((mkTo (EnvS.mk k a) a j).getD (j) default).ints) (((mkTo (EnvS.mk k a) a j).getD (j) default).arrs))).getD (j) default).arrs))).getD (j) default).ints) (mkAll (mIv ((IntKind.wrap .i64 ((EnvS.at k a j) + 1)) + 2 * (((((mkTo (EnvS.mk k a) a j).set j (Env.mk ((Int.tmod (EnvS.at k a j) 3) == 0) (((mkTo (EnvS.mk k a) a j).getD (j) default).ints) (((mkTo (EnvS.mk k a) a j).getD (j) default).arrs))).getD (j) default).ints).length : Int))) (((((mkTo (EnvS.mk k a) a j).set j (Env.mk ((Int.tmod (EnvS.at k a j) 3) == 0) (((mkTo (EnvS.mk k a) a j).getD (j) default).ints) (((mkTo (EnvS.mk k a) a j).getD (j) default).arrs))).set j (Env.mk ((((mkTo (EnvS.mk k a) a j).set j (Env.mk ((Int.tmod (EnvS.at k a j) 3) == 0) (((mkTo (EnvS.mk k a) a j).getD (j) default).ints) (((mkTo (EnvS.mk k a) a j).getD (j) default).arrs))).getD (j) default).live) (mkAll (mIv (IntKind.wrap .i64 ((EnvS.at k a j) + 1))) ((((mkTo (EnvS.mk k a) a j).set j (Env.mk ((Int.tmod (EnvS.at k a j) 3) == 0) (((mkTo (EnvS.mk k a) a j).getD (j) default).ints) (((mkTo (EnvS.mk k a) a j).getD (j) default).arrs))).getD (j) default).ints)) ((((mkTo (EnvS.mk k a) a j).set j (Env.mk ((Int.tmod (EnvS.at k a j) 3) == 0) (((mkTo (EnvS.mk k a) a j).getD (j) default).ints) (((mkTo (EnvS.mk k a) a j).getD (j) default).arrs))).getD (j) default).arrs))).getD (j) default).arrs))))) (c_markIntervalS (((((mkTo (EnvS.mk k a) a j).set j (Env.mk ((Int.tmod (EnvS.at k a j) 3) == 0) (((mkTo (EnvS.mk k a) a j).getD (j) default).ints) (((mkTo (EnvS.mk k a) a j).getD (j) default).arrs))).set j (Env.mk ((((mkTo (EnvS.mk k a) a j).set j (Env.mk ((Int.tmod (EnvS.at k a j) 3) == 0) (((mkTo (EnvS.mk k a) a j).getD (j) default).ints) (((mkTo (EnvS.mk k a) a j).getD (j) default).arrs))).getD (j) default).live) (mkAll (mIv (IntKind.wrap .i64 ((EnvS.at k a j) + 1))) ((((mkTo (EnvS.mk k a) a j).set j (Env.mk ((Int.tmod (EnvS.at k a j) 3) == 0) (((mkTo (EnvS.mk k a) a j).getD (j) default).ints) (((mkTo (EnvS.mk k a) a j).getD (j) default).arrs))).getD (j) default).ints)) ((((mkTo (EnvS.mk k a) a j).set j (Env.mk ((Int.tmod (EnvS.at k a j) 3) == 0) (((mkTo (EnvS.mk k a) a j).getD (j) default).ints) (((mkTo (EnvS.mk k a) a j).getD (j) default).arrs))).getD (j) default).arrs))).getD (j) default).arrs) ((IntKind.wrap .i64 ((EnvS.at k a j) + 1)) + 2 * (((((mkTo (EnvS.mk k a) a j).set j (Env.mk ((Int.tmod (EnvS.at k a j) 3) == 0) (((mkTo (EnvS.mk k a) a j).getD (j) default).ints) (((mkTo (EnvS.mk k a) a j).getD (j) default).arrs))).getD (j) default).ints).length : Int)) (by (have hj8 : j < a.length := (by omega); have hl9 : j < (mkTo (EnvS.mk k a) a j).length := (by rw [mkTo_len]; omega); have hE8 := hE9 hj8; rw [wrap_le (a := EnvS.at k a j + 1) (by omega) (by omega)]; simp only [set_getD, List.length_set, mkTo_len, hl9, hj8, EnvS.get hj8]; (try simp only [mkAll_len]); omega))) rfl rfl rfl rfl (map_get (by first | omega | (simp only [List.length_set, mkTo_len]; omega))) rfl (Owned.map _ _ _ _ Iv.c_o) (by intro d hd; simp at hd; subst hd; exact ⟨_, rfl⟩) rfl rfl (set_map _ _ _ (Env.mk (((((mkTo (EnvS.mk k a) a j).set j (Env.mk ((Int.tmod (EnvS.at k a j) 3) == 0) (((mkTo (EnvS.mk k a) a j).getD (j) default).ints) (((mkTo (EnvS.mk k a) a j).getD (j) default).arrs))).set j (Env.mk ((((mkTo (EnvS.mk k a) a j).set j (Env.mk ((Int.tmod (EnvS.at k a j) 3) == 0) (((mkTo (EnvS.mk k a) a j).getD (j) default).ints) (((mkTo (EnvS.mk k a) a j).getD (j) default).arrs))).getD (j) default).live) (mkAll (mIv (IntKind.wrap .i64 ((EnvS.at k a j) + 1))) ((((mkTo (EnvS.mk k a) a j).set j (Env.mk ((Int.tmod (EnvS.at k a j) 3) == 0) (((mkTo (EnvS.mk k a) a j).getD (j) default).ints) (((mkTo (EnvS.mk k a) a j).getD (j) default).arrs))).getD (j) default).ints)) ((((mkTo (EnvS.mk k a) a j).set j (Env.mk ((Int.tmod (EnvS.at k a j) 3) == 0) (((mkTo (EnvS.mk k a) a j).getD (j) default).ints) (((mkTo (EnvS.mk k a) a j).getD (j) default).arrs))).getD (j) default).arrs))).getD (j) default).live) (((((mkTo (EnvS.mk k a) a j).set j (Env.mk ((Int.tmod (EnvS.at k a j) 3) == 0) (((mkTo (EnvS.mk k a) a j).getD (j) default).ints) (((mkTo (EnvS.mk k a) a j).getD (j) default).arrs))).set j (Env.mk ((((mkTo (EnvS.mk k a) a j).set j (Env.mk ((Int.tmod (EnvS.at k a j) 3) == 0) (((mkTo (EnvS.mk k a) a j).getD (j) default).ints) (((mkTo (EnvS.mk k a) a j).getD (j) default).arrs))).getD (j) default).live) (mkAll (mIv (IntKind.wrap .i64 ((EnvS.at k a j) + 1))) ((((mkTo (EnvS.mk k a) a j).set j (Env.mk ((Int.tmod (EnvS.at k a j) 3) == 0) (((mkTo (EnvS.mk k a) a j).getD (j) default).ints) (((mkTo (EnvS.mk k a) a j).getD (j) default).arrs))).getD (j) default).ints)) ((((mkTo (EnvS.mk k a) a j).set j (Env.mk ((Int.tmod (EnvS.at k a j) 3) == 0) (((mkTo (EnvS.mk k a) a j).getD (j) default).ints) (((mkTo (EnvS.mk k a) a j).getD (j) default).arrs))).getD (j) default).arrs))).getD (j) default).ints) (mkAll (mIv ((IntKind.wrap .i64 ((EnvS.at k a j) + 1)) + 2 * (((((mkTo (EnvS.mk k a) a j).set j (Env.mk ((Int.tmod (EnvS.at k a j) 3) == 0) (((mkTo (EnvS.mk k a) a j).getD (j) default).ints) (((mkTo (EnvS.mk k a) a j).getD (j) default).arrs))).getD (j) default).ints).length : Int))) (((((mkTo (EnvS.mk k a) a j).set j (Env.mk ((Int.tmod (EnvS.at k a j) 3) == 0) (((mkTo (EnvS.mk k a) a j).getD (j) default).ints) (((mkTo (EnvS.mk k a) a j).getD (j) default).arrs))).set j (Env.mk ((((mkTo (EnvS.mk k a) a j).set j (Env.mk ((Int.tmod (EnvS.at k a j) 3) == 0) (((mkTo (EnvS.mk k a) a j).getD (j) default).ints) (((mkTo (EnvS.mk k a) a j).getD (j) default).arrs))).getD (j) default).live) (mkAll (mIv (IntKind.wrap .i64 ((EnvS.at k a j) + 1))) ((((mkTo (EnvS.mk k a) a j).set j (Env.mk ((Int.tmod (EnvS.at k a j) 3) == 0) (((mkTo (EnvS.mk k a) a j).getD (j) default).ints) (((mkTo (EnvS.mk k a) a j).getD (j) default).arrs))).getD (j) default).ints)) ((((mkTo (EnvS.mk k a) a j).set j (Env.mk ((Int.tmod (EnvS.at k a j) 3) == 0) (((mkTo (EnvS.mk k a) a j).getD (j) default).ints) (((mkTo (EnvS.mk k a) a j).getD (j) default).arrs))).getD (j) default).arrs))).getD (j) default).arrs))) _ rfl) rfl rfl ?_
    refine .assign (.no rfl) rfl rfl rfl rfl ?_
    exact .fin (k10 + 1 + 1 + 1 + 1 + 1 + 1) (.of (.cons rfl (.cons rfl (.cons rfl .nil))) (.cons rfl .nil))
   intro g11
   refine .reg (X := Unit) (fun ζ => .of [(0, .one (.ref [0, 0, 0] (0))), (1, .one (.d (.v (.int .i64 (((IntKind.wrap .i64 ((EnvS.at k a j) + 1)) + 2 * (((((mkTo (EnvS.mk k a) a j).set j (Env.mk ((Int.tmod (EnvS.at k a j) 3) == 0) (((mkTo (EnvS.mk k a) a j).getD (j) default).ints) (((mkTo (EnvS.mk k a) a j).getD (j) default).arrs))).getD (j) default).ints).length : Int)) + 2 * ((((((mkTo (EnvS.mk k a) a j).set j (Env.mk ((Int.tmod (EnvS.at k a j) 3) == 0) (((mkTo (EnvS.mk k a) a j).getD (j) default).ints) (((mkTo (EnvS.mk k a) a j).getD (j) default).arrs))).set j (Env.mk ((((mkTo (EnvS.mk k a) a j).set j (Env.mk ((Int.tmod (EnvS.at k a j) 3) == 0) (((mkTo (EnvS.mk k a) a j).getD (j) default).ints) (((mkTo (EnvS.mk k a) a j).getD (j) default).arrs))).getD (j) default).live) (mkAll (mIv (IntKind.wrap .i64 ((EnvS.at k a j) + 1))) ((((mkTo (EnvS.mk k a) a j).set j (Env.mk ((Int.tmod (EnvS.at k a j) 3) == 0) (((mkTo (EnvS.mk k a) a j).getD (j) default).ints) (((mkTo (EnvS.mk k a) a j).getD (j) default).arrs))).getD (j) default).ints)) ((((mkTo (EnvS.mk k a) a j).set j (Env.mk ((Int.tmod (EnvS.at k a j) 3) == 0) (((mkTo (EnvS.mk k a) a j).getD (j) default).ints) (((mkTo (EnvS.mk k a) a j).getD (j) default).arrs))).getD (j) default).arrs))).getD (j) default).arrs).length : Int)))))), (5, .one (.d (.v (.int .i64 (IntKind.wrap .i64 ((j : Int) + 1))))))] [([0, 0, 0], (0, g11, .row 77 3 (List.map Env.co77 ((((mkTo (EnvS.mk k a) a j).set j (Env.mk ((Int.tmod (EnvS.at k a j) 3) == 0) (((mkTo (EnvS.mk k a) a j).getD (j) default).ints) (((mkTo (EnvS.mk k a) a j).getD (j) default).arrs))).set j (Env.mk ((((mkTo (EnvS.mk k a) a j).set j (Env.mk ((Int.tmod (EnvS.at k a j) 3) == 0) (((mkTo (EnvS.mk k a) a j).getD (j) default).ints) (((mkTo (EnvS.mk k a) a j).getD (j) default).arrs))).getD (j) default).live) (mkAll (mIv (IntKind.wrap .i64 ((EnvS.at k a j) + 1))) ((((mkTo (EnvS.mk k a) a j).set j (Env.mk ((Int.tmod (EnvS.at k a j) 3) == 0) (((mkTo (EnvS.mk k a) a j).getD (j) default).ints) (((mkTo (EnvS.mk k a) a j).getD (j) default).arrs))).getD (j) default).ints)) ((((mkTo (EnvS.mk k a) a j).set j (Env.mk ((Int.tmod (EnvS.at k a j) 3) == 0) (((mkTo (EnvS.mk k a) a j).getD (j) default).ints) (((mkTo (EnvS.mk k a) a j).getD (j) default).arrs))).getD (j) default).arrs))).set j (Env.mk (((((mkTo (EnvS.mk k a) a j).set j (Env.mk ((Int.tmod (EnvS.at k a j) 3) == 0) (((mkTo (EnvS.mk k a) a j).getD (j) default).ints) (((mkTo (EnvS.mk k a) a j).getD (j) default).arrs))).set j (Env.mk ((((mkTo (EnvS.mk k a) a j).set j (Env.mk ((Int.tmod (EnvS.at k a j) 3) == 0) (((mkTo (EnvS.mk k a) a j).getD (j) default).ints) (((mkTo (EnvS.mk k a) a j).getD (j) default).arrs))).getD (j) default).live) (mkAll (mIv (IntKind.wrap .i64 ((EnvS.at k a j) + 1))) ((((mkTo (EnvS.mk k a) a j).set j (Env.mk ((Int.tmod (EnvS.at k a j) 3) == 0) (((mkTo (EnvS.mk k a) a j).getD (j) default).ints) (((mkTo (EnvS.mk k a) a j).getD (j) default).arrs))).getD (j) default).ints)) ((((mkTo (EnvS.mk k a) a j).set j (Env.mk ((Int.tmod (EnvS.at k a j) 3) == 0) (((mkTo (EnvS.mk k a) a j).getD (j) default).ints) (((mkTo (EnvS.mk k a) a j).getD (j) default).arrs))).getD (j) default).arrs))).getD (j) default).live) (((((mkTo (EnvS.mk k a) a j).set j (Env.mk ((Int.tmod (EnvS.at k a j) 3) == 0) (((mkTo (EnvS.mk k a) a j).getD (j) default).ints) (((mkTo (EnvS.mk k a) a j).getD (j) default).arrs))).set j (Env.mk ((((mkTo (EnvS.mk k a) a j).set j (Env.mk ((Int.tmod (EnvS.at k a j) 3) == 0) (((mkTo (EnvS.mk k a) a j).getD (j) default).ints) (((mkTo (EnvS.mk k a) a j).getD (j) default).arrs))).getD (j) default).live) (mkAll (mIv (IntKind.wrap .i64 ((EnvS.at k a j) + 1))) ((((mkTo (EnvS.mk k a) a j).set j (Env.mk ((Int.tmod (EnvS.at k a j) 3) == 0) (((mkTo (EnvS.mk k a) a j).getD (j) default).ints) (((mkTo (EnvS.mk k a) a j).getD (j) default).arrs))).getD (j) default).ints)) ((((mkTo (EnvS.mk k a) a j).set j (Env.mk ((Int.tmod (EnvS.at k a j) 3) == 0) (((mkTo (EnvS.mk k a) a j).getD (j) default).ints) (((mkTo (EnvS.mk k a) a j).getD (j) default).arrs))).getD (j) default).arrs))).getD (j) default).ints) (mkAll (mIv ((IntKind.wrap .i64 ((EnvS.at k a j) + 1)) + 2 * (((((mkTo (EnvS.mk k a) a j).set j (Env.mk ((Int.tmod (EnvS.at k a j) 3) == 0) (((mkTo (EnvS.mk k a) a j).getD (j) default).ints) (((mkTo (EnvS.mk k a) a j).getD (j) default).arrs))).getD (j) default).ints).length : Int))) (((((mkTo (EnvS.mk k a) a j).set j (Env.mk ((Int.tmod (EnvS.at k a j) 3) == 0) (((mkTo (EnvS.mk k a) a j).getD (j) default).ints) (((mkTo (EnvS.mk k a) a j).getD (j) default).arrs))).set j (Env.mk ((((mkTo (EnvS.mk k a) a j).set j (Env.mk ((Int.tmod (EnvS.at k a j) 3) == 0) (((mkTo (EnvS.mk k a) a j).getD (j) default).ints) (((mkTo (EnvS.mk k a) a j).getD (j) default).arrs))).getD (j) default).live) (mkAll (mIv (IntKind.wrap .i64 ((EnvS.at k a j) + 1))) ((((mkTo (EnvS.mk k a) a j).set j (Env.mk ((Int.tmod (EnvS.at k a j) 3) == 0) (((mkTo (EnvS.mk k a) a j).getD (j) default).ints) (((mkTo (EnvS.mk k a) a j).getD (j) default).arrs))).getD (j) default).ints)) ((((mkTo (EnvS.mk k a) a j).set j (Env.mk ((Int.tmod (EnvS.at k a j) 3) == 0) (((mkTo (EnvS.mk k a) a j).getD (j) default).ints) (((mkTo (EnvS.mk k a) a j).getD (j) default).arrs))).getD (j) default).arrs))).getD (j) default).arrs)))))))]) [⟨[5], some 10, [], []⟩, ⟨[10], some 11, [], []⟩, ⟨[11], some 5, [], []⟩] (fun k12 => ?_) ?_
   ·skip
    refine .move (.no rfl) rfl rfl rfl rfl ?_
    refine .bin (.no rfl) rfl rfl rfl rfl rfl rfl ?_
    refine .assign (.no rfl) rfl rfl rfl rfl ?_
    exact .fin () (.of (.cons rfl (.cons rfl (.cons rfl .nil))) (.cons rfl .nil))
   intro _
   exact .here ((j + 1), g11) (.of (.cons rfl (.cons (svI (show (((IntKind.wrap .i64 ((EnvS.at k a j) + 1)) + 2 * (((((mkTo (EnvS.mk k a) a j).set j (Env.mk ((Int.tmod (EnvS.at k a j) 3) == 0) (((mkTo (EnvS.mk k a) a j).getD (j) default).ints) (((mkTo (EnvS.mk k a) a j).getD (j) default).arrs))).getD (j) default).ints).length : Int)) + 2 * ((((((mkTo (EnvS.mk k a) a j).set j (Env.mk ((Int.tmod (EnvS.at k a j) 3) == 0) (((mkTo (EnvS.mk k a) a j).getD (j) default).ints) (((mkTo (EnvS.mk k a) a j).getD (j) default).arrs))).set j (Env.mk ((((mkTo (EnvS.mk k a) a j).set j (Env.mk ((Int.tmod (EnvS.at k a j) 3) == 0) (((mkTo (EnvS.mk k a) a j).getD (j) default).ints) (((mkTo (EnvS.mk k a) a j).getD (j) default).arrs))).getD (j) default).live) (mkAll (mIv (IntKind.wrap .i64 ((EnvS.at k a j) + 1))) ((((mkTo (EnvS.mk k a) a j).set j (Env.mk ((Int.tmod (EnvS.at k a j) 3) == 0) (((mkTo (EnvS.mk k a) a j).getD (j) default).ints) (((mkTo (EnvS.mk k a) a j).getD (j) default).arrs))).getD (j) default).ints)) ((((mkTo (EnvS.mk k a) a j).set j (Env.mk ((Int.tmod (EnvS.at k a j) 3) == 0) (((mkTo (EnvS.mk k a) a j).getD (j) default).ints) (((mkTo (EnvS.mk k a) a j).getD (j) default).arrs))).getD (j) default).arrs))).getD (j) default).arrs).length : Int)) = (EnvS.at k a (j + 1)) by first | rfl | omega | exact (EnvS.at_zero k a).symm | (have hl9 : j < (mkTo (EnvS.mk k a) a j).length := (by rw [mkTo_len]; omega); have hr9 := EnvS.round (k := k) (a := a) (j := j) (by omega) rfl rfl rfl (wrap_le (a := EnvS.at k a j + 1) (by omega) (by omega)) rfl rfl; exact hr9.2) | exact wrap_le (by omega) (by omega))) (.cons (svI (show (IntKind.wrap .i64 ((j : Int) + 1)) = (((j + 1) : Int)) by first | rfl | omega | exact (EnvS.at_zero k a).symm | (have hl9 : j < (mkTo (EnvS.mk k a) a j).length := (by rw [mkTo_len]; omega); have hr9 := EnvS.round (k := k) (a := a) (j := j) (by omega) rfl rfl rfl (wrap_le (a := EnvS.at k a j + 1) (by omega) (by omega)) rfl rfl; exact hr9.2) | exact wrap_le (by omega) (by omega))) .nil))) (.cons (rowE (show List.map Env.co77 ((((mkTo (EnvS.mk k a) a j).set j (Env.mk ((Int.tmod (EnvS.at k a j) 3) == 0) (((mkTo (EnvS.mk k a) a j).getD (j) default).ints) (((mkTo (EnvS.mk k a) a j).getD (j) default).arrs))).set j (Env.mk ((((mkTo (EnvS.mk k a) a j).set j (Env.mk ((Int.tmod (EnvS.at k a j) 3) == 0) (((mkTo (EnvS.mk k a) a j).getD (j) default).ints) (((mkTo (EnvS.mk k a) a j).getD (j) default).arrs))).getD (j) default).live) (mkAll (mIv (IntKind.wrap .i64 ((EnvS.at k a j) + 1))) ((((mkTo (EnvS.mk k a) a j).set j (Env.mk ((Int.tmod (EnvS.at k a j) 3) == 0) (((mkTo (EnvS.mk k a) a j).getD (j) default).ints) (((mkTo (EnvS.mk k a) a j).getD (j) default).arrs))).getD (j) default).ints)) ((((mkTo (EnvS.mk k a) a j).set j (Env.mk ((Int.tmod (EnvS.at k a j) 3) == 0) (((mkTo (EnvS.mk k a) a j).getD (j) default).ints) (((mkTo (EnvS.mk k a) a j).getD (j) default).arrs))).getD (j) default).arrs))).set j (Env.mk (((((mkTo (EnvS.mk k a) a j).set j (Env.mk ((Int.tmod (EnvS.at k a j) 3) == 0) (((mkTo (EnvS.mk k a) a j).getD (j) default).ints) (((mkTo (EnvS.mk k a) a j).getD (j) default).arrs))).set j (Env.mk ((((mkTo (EnvS.mk k a) a j).set j (Env.mk ((Int.tmod (EnvS.at k a j) 3) == 0) (((mkTo (EnvS.mk k a) a j).getD (j) default).ints) (((mkTo (EnvS.mk k a) a j).getD (j) default).arrs))).getD (j) default).live) (mkAll (mIv (IntKind.wrap .i64 ((EnvS.at k a j) + 1))) ((((mkTo (EnvS.mk k a) a j).set j (Env.mk ((Int.tmod (EnvS.at k a j) 3) == 0) (((mkTo (EnvS.mk k a) a j).getD (j) default).ints) (((mkTo (EnvS.mk k a) a j).getD (j) default).arrs))).getD (j) default).ints)) ((((mkTo (EnvS.mk k a) a j).set j (Env.mk ((Int.tmod (EnvS.at k a j) 3) == 0) (((mkTo (EnvS.mk k a) a j).getD (j) default).ints) (((mkTo (EnvS.mk k a) a j).getD (j) default).arrs))).getD (j) default).arrs))).getD (j) default).live) (((((mkTo (EnvS.mk k a) a j).set j (Env.mk ((Int.tmod (EnvS.at k a j) 3) == 0) (((mkTo (EnvS.mk k a) a j).getD (j) default).ints) (((mkTo (EnvS.mk k a) a j).getD (j) default).arrs))).set j (Env.mk ((((mkTo (EnvS.mk k a) a j).set j (Env.mk ((Int.tmod (EnvS.at k a j) 3) == 0) (((mkTo (EnvS.mk k a) a j).getD (j) default).ints) (((mkTo (EnvS.mk k a) a j).getD (j) default).arrs))).getD (j) default).live) (mkAll (mIv (IntKind.wrap .i64 ((EnvS.at k a j) + 1))) ((((mkTo (EnvS.mk k a) a j).set j (Env.mk ((Int.tmod (EnvS.at k a j) 3) == 0) (((mkTo (EnvS.mk k a) a j).getD (j) default).ints) (((mkTo (EnvS.mk k a) a j).getD (j) default).arrs))).getD (j) default).ints)) ((((mkTo (EnvS.mk k a) a j).set j (Env.mk ((Int.tmod (EnvS.at k a j) 3) == 0) (((mkTo (EnvS.mk k a) a j).getD (j) default).ints) (((mkTo (EnvS.mk k a) a j).getD (j) default).arrs))).getD (j) default).arrs))).getD (j) default).ints) (mkAll (mIv ((IntKind.wrap .i64 ((EnvS.at k a j) + 1)) + 2 * (((((mkTo (EnvS.mk k a) a j).set j (Env.mk ((Int.tmod (EnvS.at k a j) 3) == 0) (((mkTo (EnvS.mk k a) a j).getD (j) default).ints) (((mkTo (EnvS.mk k a) a j).getD (j) default).arrs))).getD (j) default).ints).length : Int))) (((((mkTo (EnvS.mk k a) a j).set j (Env.mk ((Int.tmod (EnvS.at k a j) 3) == 0) (((mkTo (EnvS.mk k a) a j).getD (j) default).ints) (((mkTo (EnvS.mk k a) a j).getD (j) default).arrs))).set j (Env.mk ((((mkTo (EnvS.mk k a) a j).set j (Env.mk ((Int.tmod (EnvS.at k a j) 3) == 0) (((mkTo (EnvS.mk k a) a j).getD (j) default).ints) (((mkTo (EnvS.mk k a) a j).getD (j) default).arrs))).getD (j) default).live) (mkAll (mIv (IntKind.wrap .i64 ((EnvS.at k a j) + 1))) ((((mkTo (EnvS.mk k a) a j).set j (Env.mk ((Int.tmod (EnvS.at k a j) 3) == 0) (((mkTo (EnvS.mk k a) a j).getD (j) default).ints) (((mkTo (EnvS.mk k a) a j).getD (j) default).arrs))).getD (j) default).ints)) ((((mkTo (EnvS.mk k a) a j).set j (Env.mk ((Int.tmod (EnvS.at k a j) 3) == 0) (((mkTo (EnvS.mk k a) a j).getD (j) default).ints) (((mkTo (EnvS.mk k a) a j).getD (j) default).arrs))).getD (j) default).arrs))).getD (j) default).arrs)))) = List.map Env.co77 (mkTo (EnvS.mk k a) a (j + 1)) by first | (rw [← mkTo_zero]) | (have hl9 : j < (mkTo (EnvS.mk k a) a j).length := (by rw [mkTo_len]; omega); have hr9 := EnvS.round (k := k) (a := a) (j := j) (by omega) rfl rfl rfl (wrap_le (a := EnvS.at k a j + 1) (by omega) (by omega)) rfl rfl; exact congrArg _ hr9.1))) .nil)) ⟨(show (j + 1) ≤ a.length by omega), (show a.length - (j + 1) < a.length - j by omega)⟩
  ·have c0 := of_decide_eq_false c0
   refine .exit ?_
   refine .seq ?_
   refine .reg (X := Unit) (fun ζ => .of [(0, .one (.ref [0, 0, 0] (0))), (4, .one (.d (.v (.int .i64 (EnvS.at k a j)))))] [([0, 0, 0], (0, q3, .row 77 3 (List.map Env.co77 (mkTo (EnvS.mk k a) a j))))]) [⟨[1], some 35, [], []⟩, ⟨[35], some 4, [], []⟩] (fun k13 => ?_) ?_
   ·skip
    refine .move (.no rfl) rfl rfl rfl rfl ?_
    refine .assign (.no rfl) rfl rfl rfl rfl ?_
    exact .fin () (.of (.cons rfl (.cons rfl .nil)) (.cons rfl .nil))
   intro _
   refine .ret ?_
   have e14 : (EnvS.at k a j) = (EnvS.marks k a) := by first | exact EnvS.at_all (by omega) | exact mkTo_all _ _ hI (by omega)
   have hc15 := eq1 (fun z1 => SV.one (.d (.v (.int .i64 (z1))))) e14
   have e16 : (mkTo (EnvS.mk k a) a j) = (EnvS.mark k a) := by first | exact EnvS.at_all (by omega) | exact mkTo_all _ _ hI (by omega)
   show _ ∧ _
   exact ⟨.inr rfl, .done ⟨_, [], [([0, 0, 0], (0, q3, .row 77 3 (List.map Env.co77 (EnvS.mark k a))))], _, .one (c := .d (.v (.int .i64 (EnvS.marks k a)))) (hc15) .nil, .cons (Reads.d _).gives (.cons (.ref (.head _)) .nil), nodupB_ok rfl, by simp, (AllH.get (.cons (rowE (congrArg (List.map Env.co77) e16)) .nil))⟩⟩
theorem c_heldEnvS (a : List Env) (k : Int) (hk : 0 ≤ k ∧ k ≤ 1125899906842624) (hx : Small 1048576 a) (hm : EnvS.Marked k a) : Trip Tryz.prog 30 [(false, 1), (false, 1)] ([.sl false 77 3 (List.map Env.c77 (a))] ++ [.v (.int .i64 (k))]) [(false, 1)] [.v (.int .i64 (EnvS.marks k a))] [] := by
 refine Trip.of Tryz.func30 (by decide) (c := _) rfl rfl (shB_ok rfl) (Nat.le_of_ble_eq_true rfl) rfl (AftOk.nil _) ?_
 refine .sat (t := 0) rfl (fun hs1 => ?_)
 have hs1l : a.length ≤ 9223372036854775807 := hs1.maplen
 refine .seq ?_
 refine .reg (X := Unit) (fun ζ => .of [(0, .one (.d (.sl false 77 3 (List.map Env.c77 (a))))), (1, .one (.d (.v (.int .i64 (k)))))] []) [⟨[], some 4, [], []⟩] (fun k2 => ?_) ?_
 ·skip
  refine .assign (.no rfl) rfl rfl rfl rfl ?_
  exact .fin () (.of (.cons rfl (.cons rfl .nil)) .nil)
 intro _
 refine .seq ?_
 refine .seq ?_
 refine .reg (X := Unit) (fun ζ => .of [(0, .one (.d (.sl false 77 3 (List.map Env.c77 (a))))), (1, .one (.d (.v (.int .i64 (k))))), (5, .one (.d (.v (.int .i64 (0)))))] []) [⟨[], some 5, [], []⟩] (fun k3 => ?_) ?_
 ·skip
  refine .assign (.no rfl) rfl rfl rfl rfl ?_
  exact .fin () (.of (.cons rfl (.cons rfl (.cons rfl .nil))) .nil)
 intro _
 refine .block ?_
 refine .loop (X := Nat) (fun ζ => .of [(0, .one (.d (.sl false 77 3 (List.map Env.c77 (a))))), (1, .one (.d (.v (.int .i64 (EnvS.at k a ζ))))), (5, .one (.d (.v (.int .i64 ((ζ : Int))))))] []) (fun ζ => ζ ≤ a.length) (fun ζ => a.length - ζ) ?_ ?_
 ·skip
  exact .here 0 (.of (.cons rfl (.cons (svI (show (k) = (EnvS.at k a 0) by first | rfl | omega | exact (EnvS.at_zero k a).symm | (rw [wrap_le (a := EnvS.at k a j + 1) (by omega) (by omega), EnvS.at_step (by omega)]; unfold Env.wt; omega) | exact wrap_le (by omega) (by omega))) (.cons (svI (show (0) = ((0 : Int)) by first | rfl | omega | exact (EnvS.at_zero k a).symm | (rw [wrap_le (a := EnvS.at k a j + 1) (by omega) (by omega), EnvS.at_step (by omega)]; unfold Env.wt; omega) | exact wrap_le (by omega) (by omega))) .nil))) .nil) (show 0 ≤ a.length by omega)
 ·rintro j hI
  have hI : j ≤ a.length := hI
  have hA9 : a.length ≤ 1048576 := hx.1
  have hb9 := EnvS.bnd (k := k) hx (j := j) (by omega) hk
  have hE9 : j < a.length → (a.getD j default).ints.length ≤ 1048576 ∧ (a.getD j default).arrs.length ≤ 1048576 := fun h => hx.2 _ (getD_mem h)
  refine .seq ?_
  refine .seq ?_
  refine .reg (X := Unit) (fun ζ => .of [(0, .one (.d (.sl false 77 3 (List.map Env.c77 (a))))), (1, .one (.d (.v (.int .i64 (EnvS.at k a j))))), (5, .one (.d (.v (.int .i64 ((j : Int)))))), (9, .one (.d (.v (.bool (decide ((j : Int) < (a.length : Int)))))))] []) [⟨[5], some 6, [], []⟩, ⟨[0], some 7, [], []⟩, ⟨[7], some 8, [], []⟩, ⟨[6, 8], some 9, [], []⟩] (fun k4 => ?_) ?_
  ·skip
   refine .move (.no rfl) rfl rfl rfl rfl ?_
   refine .move (.no rfl) rfl rfl rfl rfl ?_
   refine .len (.no rfl) rfl (z := (a.length : Int)) t40 rfl rfl rfl (.d _ _) (map_len _ _) rfl ?_
   refine .bin (.no rfl) rfl rfl rfl rfl rfl rfl ?_
   exact .fin () (.of (.cons rfl (.cons rfl (.cons rfl (.cons rfl .nil)))) .nil)
  intro _
  refine .cond (t := decide ((j : Int) < (a.length : Int))) rfl (fun c0 => ?_) (fun c0 => ?_)
  ·have c0 := of_decide_eq_true c0
   refine .skip ?_
   refine .seq ?_
   refine .block ?_
   refine .seq ?_
   refine .seq ?_
   refine .reg (X := Unit) (fun ζ => .of [(0, .one (.d (.sl false 77 3 (List.map Env.c77 (a))))), (1, .one (.d (.v (.int .i64 (EnvS.at k a j))))), (5, .one (.d (.v (.int .i64 ((j : Int)))))), (20, .one (.d (.v (.bool (((a.getD j default).live) != ((Int.tmod (EnvS.at k a j) 3) == 0))))))] []) [⟨[0], some 12, [], []⟩, ⟨[5], some 13, [], []⟩, ⟨[12, 13], some 14, [], []⟩, ⟨[14], some 15, [], []⟩, ⟨[15], some 16, [], []⟩, ⟨[1], some 17, [], []⟩, ⟨[17], some 18, [], []⟩, ⟨[18], some 19, [], []⟩, ⟨[16, 19], some 20, [], []⟩] (fun k5 => ?_) ?_
   ·skip
    refine .move (.no rfl) rfl rfl rfl rfl ?_
    refine .move (.no rfl) rfl rfl rfl rfl ?_
    refine .indexAddr (.no rfl) rfl (j) t40 rfl t77 rfl rfl rfl (.d _ _) rfl rfl rfl (map_get (by omega)) rfl rfl ?_
    refine .fieldAddr (.no rfl) rfl t77 rfl rfl t4 rfl rfl rfl rfl [] (by simp) (by intro _ _ _ h; cases h) rfl rfl ?_
    refine .load (.no rfl) rfl t4 rfl rfl (.d _) rfl rfl rfl rfl ?_
    refine .move (.no rfl) rfl rfl rfl rfl ?_
    refine .quoRem (.no rfl) rfl (.inr ⟨rfl, rfl⟩) rfl rfl rfl rfl rfl ?_
    refine .bin (.no rfl) rfl rfl rfl rfl rfl rfl ?_
    refine .neB (.no rfl) rfl t4 rfl rfl rfl rfl rfl ?_
    exact .fin () (.of (.cons rfl (.cons rfl (.cons rfl (.cons rfl .nil)))) .nil)
   intro _
   refine .cond (t := ((a.getD j default).live) != ((Int.tmod (EnvS.at k a j) 3) == 0)) rfl (fun c1 => ?_) (fun c1 => ?_)
   ·have c1 := c1
    refine .seq ?_
    refine .reg (X := Unit) (fun ζ => .of [(4, .one (.d (.v (.int .i64 (-1)))))] []) [⟨[], some 4, [], []⟩] (fun k6 => ?_) ?_
    ·skip
     refine .assign (.no rfl) rfl rfl rfl rfl ?_
     exact .fin () (.of (.cons rfl .nil) .nil)
    intro _
    refine .ret ?_
    have e7 : (-1) = (EnvS.marks k a) := by (rw [EnvS.heldL hm (by omega)] at c1; simp at c1)
    have hc8 := eq1 (fun z1 => SV.one (.d (.v (.int .i64 (z1))))) e7
    show _ ∧ _
    exact ⟨.inr rfl, .done ⟨_, [], [], _, .one (c := .d (.v (.int .i64 (EnvS.marks k a)))) (hc8) .nil, .cons (Reads.d _).gives .nil, nodupB_ok rfl, by simp, (by simp)⟩⟩
   ·have c1 := c1
    refine .skip ?_
    refine .seq ?_
    refine .reg (X := Unit) (fun ζ => .of [(0, .one (.d (.sl false 77 3 (List.map Env.c77 (a))))), (1, .one (.d (.v (.int .i64 (IntKind.wrap .i64 ((EnvS.at k a j) + 1)))))), (5, .one (.d (.v (.int .i64 ((j : Int))))))] []) [⟨[1], some 21, [], []⟩, ⟨[21], some 22, [], []⟩, ⟨[22], some 1, [], []⟩] (fun k9 => ?_) ?_
    ·skip
     refine .move (.no rfl) rfl rfl rfl rfl ?_
     refine .bin (.no rfl) rfl rfl rfl rfl rfl rfl ?_
     refine .assign (.no rfl) rfl rfl rfl rfl ?_
     exact .fin () (.of (.cons rfl (.cons rfl (.cons rfl .nil))) .nil)
    intro _
    refine .seq ?_
    refine .reg (X := Unit) (fun ζ => .of [(0, .one (.d (.sl false 77 3 (List.map Env.c77 (a))))), (1, .one (.d (.v (.int .i64 ((IntKind.wrap .i64 ((EnvS.at k a j) + 1)) + 2 * (((a.getD j default).ints).length : Int)))))), (5, .one (.d (.v (.int .i64 ((j : Int))))))] []) [⟨[0], some 23, [], []⟩, ⟨[5], some 24, [], []⟩, ⟨[23, 24], some 25, [], []⟩, ⟨[25], some 26, [], []⟩, ⟨[26], some 27, [], []⟩, ⟨[1], some 28, [], []⟩, ⟨[27, 28], some 29, [], []⟩, ⟨[29], some 1, [], []⟩] (fun k10 => ?_) ?_
    ·skip
     refine .move (.no rfl) rfl rfl rfl rfl ?_
     refine .move (.no rfl) rfl rfl rfl rfl ?_
     refine .indexAddr (.no rfl) rfl (j) t40 rfl t77 rfl rfl rfl (.d _ _) rfl rfl rfl (map_get (by omega)) rfl rfl ?_
     refine .fieldAddr (.no rfl) rfl t77 rfl rfl t75 rfl rfl rfl rfl [] (by simp) (by intro _ _ _ h; cases h) rfl rfl ?_
     refine .load (.no rfl) rfl t75 rfl rfl (.d _) rfl rfl rfl rfl ?_
     refine .move (.no rfl) rfl rfl rfl rfl ?_
     refine .call (.no rfl) rfl [] [] (c_heldIntervalS ((a.getD j default).ints) (IntKind.wrap .i64 ((EnvS.at k a j) + 1)) (by first | exact ⟨by rw [wrap_le (a := EnvS.at k a j + 1) (by omega) (by omega)]; omega, by rw [wrap_le (a := EnvS.at k a j + 1) (by omega) (by omega)]; have := hE9 (by omega); omega⟩ | (rw [wrap_le (a := EnvS.at k a j + 1) (by omega) (by omega)]; exact EnvS.heldI hm (by omega)) | (rw [wrap_le (a := EnvS.at k a j + 1) (by omega) (by omega)]; exact EnvS.heldA hm (by omega)) | (rw [wrap_le (a := EnvS.at k a j + 1) (by omega) (by omega)]; have := hE9 (by omega); omega)) (by first | exact ⟨by rw [wrap_le (a := EnvS.at k a j + 1) (by omega) (by omega)]; omega, by rw [wrap_le (a := EnvS.at k a j + 1) (by omega) (by omega)]; have := hE9 (by omega); omega⟩ | (rw [wrap_le (a := EnvS.at k a j + 1) (by omega) (by omega)]; exact EnvS.heldI hm (by omega)) | (rw [wrap_le (a := EnvS.at k a j + 1) (by omega) (by omega)]; exact EnvS.heldA hm (by omega)) | (rw [wrap_le (a := EnvS.at k a j + 1) (by omega) (by omega)]; have := hE9 (by omega); omega))) rfl rfl rfl rfl rfl (.cons (Reads.d _).gives (.cons (Reads.d _).gives .nil)) rfl rfl (fun h => absurd rfl h) (.own [29, 0] .nil) (.nil) rfl rfl rfl (by simp) rfl rfl rfl ?_
     refine .assign (.no rfl) rfl rfl rfl rfl ?_
     exact .fin () (.of (.cons rfl (.cons rfl (.cons rfl .nil))) .nil)
    intro _
    refine .seq ?_
    refine .seq ?_
    refine .reg (X := Unit) (fun ζ => .of [(0, .one (.d (.sl false 77 3 (List.map Env.c77 (a))))), (1, .one (.d (.v (.int .i64 ((IntKind.wrap .i64 ((EnvS.at k a j) + 1)) + 2 * (((a.getD j default).ints).length : Int)))))), (5, .one (.d (.v (.int .i64 ((j : Int)))))), (31, .one (.d (.v (.bool (decide (((IntKind.wrap .i64 ((EnvS.at k a j) + 1)) + 2 * (((a.getD j default).ints).length : Int)) < 0))))))] []) [⟨[1], some 30, [], []⟩, ⟨[30], some 31, [], []⟩] (fun k11 => ?_) ?_
    ·skip
     refine .move (.no rfl) rfl rfl rfl rfl ?_
     refine .bin (.no rfl) rfl rfl rfl rfl rfl rfl ?_
     exact .fin () (.of (.cons rfl (.cons rfl (.cons rfl (.cons rfl .nil)))) .nil)
    intro _
    refine .cond (t := decide (((IntKind.wrap .i64 ((EnvS.at k a j) + 1)) + 2 * (((a.getD j default).ints).length : Int)) < 0)) rfl (fun c2 => ?_) (fun c2 => ?_)
    ·have c2 := of_decide_eq_true c2
     refine .seq ?_
     refine .reg (X := Unit) (fun ζ => .of [(4, .one (.d (.v (.int .i64 (-1)))))] []) [⟨[], some 4, [], []⟩] (fun k12 => ?_) ?_
     ·skip
      refine .assign (.no rfl) rfl rfl rfl rfl ?_
      exact .fin () (.of (.cons rfl .nil) .nil)
     intro _
     refine .ret ?_
     have e13 : (-1) = (EnvS.marks k a) := by (rw [wrap_le (a := EnvS.at k a j + 1) (by omega) (by omega)] at c2; omega)
     have hc14 := eq1 (fun z1 => SV.one (.d (.v (.int .i64 (z1))))) e13
     show _ ∧ _
     exact ⟨.inr rfl, .done ⟨_, [], [], _, .one (c := .d (.v (.int .i64 (EnvS.marks k a)))) (hc14) .nil, .cons (Reads.d _).gives .nil, nodupB_ok rfl, by simp, (by simp)⟩⟩
    ·have c2 := of_decide_eq_false c2
     refine .skip ?_
     refine .seq ?_
     refine .reg (X := Unit) (fun ζ => .of [(0, .one (.d (.sl false 77 3 (List.map Env.c77 (a))))), (1, .one (.d (.v (.int .i64 (((IntKind.wrap .i64 ((EnvS.at k a j) + 1)) + 2 * (((a.getD j default).ints).length : Int)) + 2 * (((a.getD j default).arrs).length : Int)))))), (5, .one (.d (.v (.int .i64 ((j : Int))))))] []) [⟨[0], some 32, [], []⟩, ⟨[5], some 33, [], []⟩, ⟨[32, 33], some 34, [], []⟩, ⟨[34], some 35, [], []⟩, ⟨[35], some 36, [], []⟩, ⟨[1], some 37, [], []⟩, ⟨[36, 37], some 38, [], []⟩, ⟨[38], some 1, [], []⟩] (fun k15 => ?_) ?_
     ·skip
      refine .move (.no rfl) rfl rfl rfl rfl ?_
      refine .move (.no rfl) rfl rfl rfl rfl ?_
      refine .indexAddr (.no rfl) rfl (j) t40 rfl t77 rfl rfl rfl (.d _ _) rfl rfl rfl (map_get (by omega)) rfl rfl ?_
      refine .fieldAddr (.no rfl) rfl t77 rfl rfl t75 rfl rfl rfl rfl [] (by simp) (by intro _ _ _ h; cases h) rfl rfl ?_
      refine .load (.no rfl) rfl t75 rfl rfl (.d _) rfl rfl rfl rfl ?_
      refine .move (.no rfl) rfl rfl rfl rfl ?_
      refine .call (.no rfl) rfl [] [] (c_heldIntervalS ((a.getD j default).arrs) ((IntKind.wrap .i64 ((EnvS.at k a j) + 1)) + 2 * (((a.getD j default).ints).length : Int)) (by first | exact ⟨by rw [wrap_le (a := EnvS.at k a j + 1) (by omega) (by omega)]; omega, by rw [wrap_le (a := EnvS.at k a j + 1) (by omega) (by omega)]; have := hE9 (by omega); omega⟩ | (rw [wrap_le (a := EnvS.at k a j + 1) (by omega) (by omega)]; exact EnvS.heldI hm (by omega)) | (rw [wrap_le (a := EnvS.at k a j + 1) (by omega) (by omega)]; exact EnvS.heldA hm (by omega)) | (rw [wrap_le (a := EnvS.at k a j + 1) (by omega) (by omega)]; have := hE9 (by omega); omega)) (by first | exact ⟨by rw [wrap_le (a := EnvS.at k a j + 1) (by omega) (by omega)]; omega, by rw [wrap_le (a := EnvS.at k a j + 1) (by omega) (by omega)]; have := hE9 (by omega); omega⟩ | (rw [wrap_le (a := EnvS.at k a j + 1) (by omega) (by omega)]; exact EnvS.heldI hm (by omega)) | (rw [wrap_le (a := EnvS.at k a j + 1) (by omega) (by omega)]; exact EnvS.heldA hm (by omega)) | (rw [wrap_le (a := EnvS.at k a j + 1) (by omega) (by omega)]; have := hE9 (by omega); omega))) rfl rfl rfl rfl rfl (.cons (Reads.d _).gives (.cons (Reads.d _).gives .nil)) rfl rfl (fun h => absurd rfl h) (.own [38, 0] .nil) (.nil) rfl rfl rfl (by simp) rfl rfl rfl ?_
      refine .assign (.no rfl) rfl rfl rfl rfl ?_
      exact .fin () (.of (.cons rfl (.cons rfl (.cons rfl .nil))) .nil)
     intro _
     refine .seq ?_
     refine .reg (X := Unit) (fun ζ => .of [(0, .one (.d (.sl false 77 3 (List.map Env.c77 (a))))), (1, .one (.d (.v (.int .i64 (((IntKind.wrap .i64 ((EnvS.at k a j) + 1)) + 2 * (((a.getD j default).ints).length : Int)) + 2 * (((a.getD j default).arrs).length : Int)))))), (5, .one (.d (.v (.int .i64 ((j : Int)))))), (40, .one (.d (.v (.bool (decide ((((IntKind.wrap .i64 ((EnvS.at k a j) + 1)) + 2 * (((a.getD j default).ints).length : Int)) + 2 * (((a.getD j default).arrs).length : Int)) < 0))))))] []) [⟨[1], some 39, [], []⟩, ⟨[39], some 40, [], []⟩] (fun k16 => ?_) ?_
     ·skip
      refine .move (.no rfl) rfl rfl rfl rfl ?_
      refine .bin (.no rfl) rfl rfl rfl rfl rfl rfl ?_
      exact .fin () (.of (.cons rfl (.cons rfl (.cons rfl (.cons rfl .nil)))) .nil)
     intro _
     refine .cond (t := decide ((((IntKind.wrap .i64 ((EnvS.at k a j) + 1)) + 2 * (((a.getD j default).ints).length : Int)) + 2 * (((a.getD j default).arrs).length : Int)) < 0)) rfl (fun c3 => ?_) (fun c3 => ?_)
     ·have c3 := of_decide_eq_true c3
      refine .seq ?_
      refine .reg (X := Unit) (fun ζ => .of [(4, .one (.d (.v (.int .i64 (-1)))))] []) [⟨[], some 4, [], []⟩] (fun k17 => ?_) ?_
      ·skip
       refine .assign (.no rfl) rfl rfl rfl rfl ?_
       exact .fin () (.of (.cons rfl .nil) .nil)
      intro _
      refine .ret ?_
      have e18 : (-1) = (EnvS.marks k a) := by (rw [wrap_le (a := EnvS.at k a j + 1) (by omega) (by omega)] at c3; omega)
      have hc19 := eq1 (fun z1 => SV.one (.d (.v (.int .i64 (z1))))) e18
      show _ ∧ _
      exact ⟨.inr rfl, .done ⟨_, [], [], _, .one (c := .d (.v (.int .i64 (EnvS.marks k a)))) (hc19) .nil, .cons (Reads.d _).gives .nil, nodupB_ok rfl, by simp, (by simp)⟩⟩
     ·have c3 := of_decide_eq_false c3
      refine .skip ?_
      refine .reg (X := Unit) (fun ζ => .of [(0, .one (.d (.sl false 77 3 (List.map Env.c77 (a))))), (1, .one (.d (.v (.int .i64 (((IntKind.wrap .i64 ((EnvS.at k a j) + 1)) + 2 * (((a.getD j default).ints).length : Int)) + 2 * (((a.getD j default).arrs).length : Int)))))), (5, .one (.d (.v (.int .i64 (IntKind.wrap .i64 ((j : Int) + 1))))))] []) [⟨[5], some 10, [], []⟩, ⟨[10], some 11, [], []⟩, ⟨[11], some 5, [], []⟩] (fun k20 => ?_) ?_
      ·skip
       refine .move (.no rfl) rfl rfl rfl rfl ?_
       refine .bin (.no rfl) rfl rfl rfl rfl rfl rfl ?_
       refine .assign (.no rfl) rfl rfl rfl rfl ?_
       exact .fin () (.of (.cons rfl (.cons rfl (.cons rfl .nil))) .nil)
      intro _
      exact .here (j + 1) (.of (.cons rfl (.cons (svI (show (((IntKind.wrap .i64 ((EnvS.at k a j) + 1)) + 2 * (((a.getD j default).ints).length : Int)) + 2 * (((a.getD j default).arrs).length : Int)) = (EnvS.at k a (j + 1)) by first | rfl | omega | exact (EnvS.at_zero k a).symm | (rw [wrap_le (a := EnvS.at k a j + 1) (by omega) (by omega), EnvS.at_step (by omega)]; unfold Env.wt; omega) | exact wrap_le (by omega) (by omega))) (.cons (svI (show (IntKind.wrap .i64 ((j : Int) + 1)) = (((j + 1) : Int)) by first | rfl | omega | exact (EnvS.at_zero k a).symm | (rw [wrap_le (a := EnvS.at k a j + 1) (by omega) (by omega), EnvS.at_step (by omega)]; unfold Env.wt; omega) | exact wrap_le (by omega) (by omega))) .nil))) .nil) ⟨(show (j + 1) ≤ a.length by omega), (show a.length - (j + 1) < a.length - j by omega)⟩
  ·have c0 := of_decide_eq_false c0
   refine .exit ?_
   refine .seq ?_
   refine .reg (X := Unit) (fun ζ => .of [(4, .one (.d (.v (.int .i64 (EnvS.at k a j)))))] []) [⟨[1], some 41, [], []⟩, ⟨[41], some 4, [], []⟩] (fun k21 => ?_) ?_
   ·skip
    refine .move (.no rfl) rfl rfl rfl rfl ?_
    refine .assign (.no rfl) rfl rfl rfl rfl ?_
    exact .fin () (.of (.cons rfl .nil) .nil)
   intro _
   refine .ret ?_
   have e22 : (EnvS.at k a j) = (EnvS.marks k a) := by exact EnvS.at_all (by omega)
   have hc23 := eq1 (fun z1 => SV.one (.d (.v (.int .i64 (z1))))) e22
   show _ ∧ _
   exact ⟨.inr rfl, .done ⟨_, [], [], _, .one (c := .d (.v (.int .i64 (EnvS.marks k a)))) (hc23) .nil, .cons (Reads.d _).gives .nil, nodupB_ok rfl, by simp, (by simp)⟩⟩
end Go.Proofs

/- Contracts of the program's functions at this seat, printed by a program of ours and checked by Lean: each under the conditions of its own statement. -/
import Derived.Test.YthkdghnejfmhfaaDoorF1
set_option linter.all false
set_option linter.unnecessarySimpa false
set_option linter.unusedSectionVars false
set_option linter.unusedSimpArgs false
set_option linter.unusedVariables false
namespace Go.Proofs
open Go Go.Proofs Go.Ev

theorem c_eval (s : Store) (l : List Tok) (hk : ∃ d, ¬ Expr.kind d l = 0 ∧ Store.okIn d s = true) (hf : FitS s) (hl : ∀ x ∈ s.arrs, x.length ≤ 1048576) : Trip Tryd.prog 39 [(true, 3), (false, 1)] (Store.c46 s ++ [.sl false 40 2 (List.map Tok.c (l))]) [(false, 1), (false, 1)] [.v (.int .i64 (evN s l)), .v (.int .i64 (evC s l))] [] := by
 refine Trip.of Tryd.func39 (by decide) (c := _) rfl rfl (Nat.le_of_ble_eq_true rfl) rfl (AftOk.nil _) <| .sla (t := 0) 0 rfl rfl fun hs1l => .sla (t := 0) 1 rfl rfl fun hs2l => .sla (t := 0) 2 rfl rfl fun hs3l => .sl (t := 1) rfl fun hs4l => ?_
 obtain ⟨d, hk, hs⟩ := hk
 have hl9 := kind_len hk
 refine .seq <| .rs fun k5 => .g (fun _ τ => ⟨_, .box (.no rfl) rfl rfl rfl rfl rfl τ⟩) <| .as rfl <| .as rfl <| .z <| .seq <| .rs fun k6 => .as rfl ?_
 refine .z <| .seq <| .seq <| .rs fun k7 => .mv rfl <| .g (fun _ τ => ⟨_, .len (.no rfl) rfl (z := (l.length : Int)) t41 rfl rfl rfl (.d _ _) (map_len _ _) rfl τ⟩) <| .mv rfl <| .z <| .block ?_
 refine .loop (X := Nat × List Int × Nat × Nat) (fun ζ => .of [(2, .one (.ptr [2] (k5) 0)), (6, .one (.ref [68] (ζ.2.2.1))), (13, .one (.d (.sl false 40 2 (List.map Tok.c (l))))), (14, .one (.d (.v (.int .i64 ((l.length : Int)))))), (15, .one (.d (.v (.int .i64 ((ζ.1 : Int))))))] [([2], (k5, k5, .box [.d (.sl false 2 1 (List.map i64c (s.ints))), .d (.sl false 4 1 (List.map boolc (s.flags))), .d (.sl false 42 1 (List.map slc42 (s.arrs)))])), ([68], (ζ.2.2.1, ζ.2.2.2, .row 2 1 (List.map i64c (ζ.2.1))))]) (fun ζ => ζ.1 ≤ l.length ∧ evS s l ζ.1 = (0, ζ.2.1) ∧ PileI d l ζ.1 ζ.2.1) (fun ζ => l.length - ζ.1) ?_ ?_
 ·skip
  refine .nilRow 6 [68] 2 1 rfl fun k10 => ?_
  exact .here (0, [], k10, k10) (.of (.cons rfl (.cons rfl (.cons rfl (.cons rfl (.cons (svI (show (0) = ((0 : Int)) by first | rfl | omega | exact wrap_le (by omega) (by omega) | (rw [wrap_le (by omega) (by omega)]; omega))) .nil))))) (.cons rfl (.cons (rowE (show [] = List.map i64c ([]) by first | with_reducible rfl | exact congrArg _ (thing_eq rfl (by omega)).1 | exact congrArg _ (of_eq (by omega)).1 | exact congrArg _ (ap_eq (by omega) (by omega)).1 | rfl)) .nil))) (show 0 ≤ l.length ∧ evS s l 0 = (0, []) ∧ PileI d l 0 [] by exact ⟨by omega, rfl, PileI.zero⟩)
 ·rintro ⟨j, p, q8, q9⟩ hI
  have hI : j ≤ l.length ∧ evS s l j = (0, p) ∧ PileI d l j p := hI
  have hp9 := pile_len hI.2.2
  have ht9 := takesN_bnd (l.getD j default).op
  dsimp only
  refine .seq <| .rs fun k11 => .bi rfl <| .z <| .seq ?_
  refine .cond (t := decide ((j : Int) < (l.length : Int))) rfl (fun c0 => ?_) (fun c0 => ?_)
  ·have c0 := of_decide_eq_true c0
   have hN9 := next_of hk hs (by omega) hI.2.2
   have hO9 := hN9.ok
   have hN0 := hN9.n0
   have hL9 := (takes_same hN9.ok).1
   have hT9 := next_top hN9
   refine .skip <| .seq <| .block <| .seq <| .rs fun k12 => .g (fun _ τ => ⟨_, .indexAddr (.no rfl) rfl (j) t41 rfl t40 rfl rfl rfl (.d _ _) rfl rfl rfl (map_get (by omega)) rfl rfl τ⟩) <| .lda t40 rfl (.d _) rfl <| .g (fun _ τ => ⟨_, .alloc (.no rfl) rfl z40 rfl rfl rfl τ⟩) <| .g (fun _ τ => ⟨_, .store (.no rfl) rfl t40 rfl rfl rfl rfl rfl rfl rfl rfl rfl τ⟩) ?_
   refine .z <| .seq <| .rs fun k13 => .fp t40 t2 rfl <| .ld t2 rfl (.ptr _ _ _ _ _ rfl) rfl <| .c0 (c_takes ((l.getD j default).op)) rfl (.dd .nil) (.own [21, 0] .nil) rfl <| .g (fun _ τ => ⟨_, .len (.no rfl) rfl (z := ((takesL ((l.getD j default).op)).length : Int)) t42 rfl rfl rfl (.d _ _) (map_len _ _) rfl τ⟩) <| .as rfl <| .z ?_
   refine .seq <| .rs fun k14 => .mv rfl <| .g (fun _ τ => ⟨_, .len (.no rfl) rfl (z := (p.length : Int)) t42 rfl rfl rfl (.ref _ _ _ _ _ rfl) (map_len _ _) rfl τ⟩) <| .mv rfl <| .g (fun _ τ => ⟨_, .binN (.no rfl) rfl (show IntKind.wrap .i64 ((p.length : Int) - ((takesL ((l.getD j default).op)).length : Int)) = (p.length : Int) - takesN (l.getD j default).op by ((try rw [hL9]); exact wrap_le (by omega) (by omega))) rfl rfl rfl rfl rfl τ⟩) <| .as rfl <| .z <| .seq ?_
   refine .rs fun k15 => .as rfl <| .as rfl <| .z <| .seq <| .seq <| .rs fun k16 => .mv rfl <| .z ?_
   refine .block <| .seq <| .rs fun k17 => .bi rfl <| .as rfl <| .z ?_
   refine .cond (t := ((takesL ((l.getD j default).op)).length : Int) == 0) rfl (fun c1 => ?_) (fun c1 => ?_)
   ·have c1 := (by simpa using c1 : ((takesL ((l.getD j default).op)).length : Int) = 0)
    refine .rs fun k18 => .lda t46 rfl (.ptr _ _ _ _ _ rfl) rfl <| .lda t40 rfl (.ptr _ _ _ _ _ rfl) rfl <| .c0 (c_thing s (l.getD j default) (by first | assumption | exact hN9.var | exact hN9.flag | exact hN9.arr | exact (hT9.1 (by omega)).1 | exact (hT9.1 (by omega)).2 | exact (hT9.2 (by omega)).1.1 | exact (hT9.2 (by omega)).1.2 | exact (hT9.2 (by omega)).2) (by first | assumption | exact hN9.var | exact hN9.flag | exact hN9.arr | exact (hT9.1 (by omega)).1 | exact (hT9.1 (by omega)).2 | exact (hT9.2 (by omega)).1.1 | exact (hT9.2 (by omega)).1.2 | exact (hT9.2 (by omega)).2)) rfl (.dd (.dd (.dd (.dd (.dd .nil))))) (.own [47, 0] .nil) rfl <| .as rfl <| .z <| .seq <| .seq <| .rs fun k19 => ?_
    refine .mv rfl <| .bi rfl <| .z ?_
    refine .cond (t := 0 != 0) rfl (fun c3 => ?_) (fun c3 => ?_)
    ·have c3 := (by simpa using c3 : ¬ (0 = 0))
     refine .seq <| .rs fun k20 => .mv rfl <| .as rfl <| .as rfl <| .z <| .ret ?_
     exact fin0 (.inr rfl) (.one (svI (show (0) = (evN s l) by first | exact (ev_bad1 hI.2.1 (by omega) (by omega) c3).1 | exact (ev_bad1 hI.2.1 (by omega) (by omega) c3).2 | exact (ev_bad2 hI.2.1 (by omega) (by omega) (by omega) c3).1 | exact (ev_bad2 hI.2.1 (by omega) (by omega) (by omega) c3).2 | exact absurd rfl c3 | exact (ev_end hI.2.1 (by omega) hI.1).1.symm | exact (ev_end hI.2.1 (by omega) hI.1).2.symm)) (.one (svI (show (0) = (evC s l) by first | exact (ev_bad1 hI.2.1 (by omega) (by omega) c3).1 | exact (ev_bad1 hI.2.1 (by omega) (by omega) c3).2 | exact (ev_bad2 hI.2.1 (by omega) (by omega) (by omega) c3).1 | exact (ev_bad2 hI.2.1 (by omega) (by omega) (by omega) c3).2 | exact absurd rfl c3 | exact (ev_end hI.2.1 (by omega) hI.1).1.symm | exact (ev_end hI.2.1 (by omega) hI.1).2.symm)) .nil)) (.dd (.dd .nil)) rfl
    ·have c3 := (by simpa using c3 : 0 = 0)
     refine .skip <| .rs fun k23 => .mv rfl <| .mv rfl <| .g (fun _ τ => ⟨_, .trim (.no rfl) rfl (hv := ((p.length : Int) - takesN (l.getD j default).op).toNat) (els' := List.map i64c (p.take (((p.length : Int) - takesN (l.getD j default).op).toNat))) t42 rfl t2 rfl rfl rfl rfl (by exact ⟨_, nat_iv (a := (p.length : Int) - takesN (l.getD j default).op) (by omega)⟩) (le_map (by omega)) (by rw [List.map_take]) rfl τ⟩) <| .mv rfl <| .g (fun _ τ => ⟨_, .buildSlice (.no rfl) rfl (els := [[.v (.int .i64 (thingV s (l.getD j default)))]]) t42 rfl z2 rfl rfl rfl rfl rfl rfl rfl rfl (by simp [i2]) (.cons _ _ _ _ _ _ (.d _) .nil) rfl rfl rfl τ⟩) ?_
     refine .g (fun _ τ => ⟨_, .append (.no rfl) rfl (l3 := List.map i64c (p.take (((p.length : Int) - takesN (l.getD j default).op).toNat) ++ [thingV s (l.getD j default)])) t42 rfl z2 rfl rfl rfl rfl rfl rfl rfl rfl (.ref _ _ _ _ rfl) (.take _ _ _ _ _ rfl) rfl (by first | (simp [i2]; omega) | (simp [i3]; omega)) (map_snoc _ _ _) rfl rfl τ⟩) <| .as rfl <| .z ?_
     refine .reg (X := Unit) (fun ζ => .of [(2, .one (.ptr [2] (k5) 0)), (6, .one (.ref [68] (k23 + 1 + 1 + 1 + 1 + 1))), (13, .one (.d (.sl false 40 2 (List.map Tok.c (l))))), (14, .one (.d (.v (.int .i64 ((l.length : Int)))))), (15, .one (.d (.v (.int .i64 (IntKind.wrap .i64 ((j : Int) + 1))))))] [([2], (k5, k5, .box [.d (.sl false 2 1 (List.map i64c (s.ints))), .d (.sl false 4 1 (List.map boolc (s.flags))), .d (.sl false 42 1 (List.map slc42 (s.arrs)))])), ([68], (k23 + 1 + 1 + 1 + 1 + 1, k23 + 1 + 1 + 1 + 1 + 1, .row 2 1 (List.map i64c (p.take (((p.length : Int) - takesN (l.getD j default).op).toNat) ++ [thingV s (l.getD j default)]))))]) [⟨[15], some 69, [], []⟩, ⟨[69], some 15, [], []⟩] (fun k24 => ?_) ?_
     ·skip
      refine .bin (.no rfl) rfl rfl rfl rfl rfl rfl <| .move (.no rfl) rfl rfl rfl rfl ?_
      exact .fin () (.of (.r rfl) (.r rfl))
     intro _
     exact .here ((j + 1), (nxP s p (l.getD j default)), (k23 + 1 + 1 + 1 + 1 + 1), (k23 + 1 + 1 + 1 + 1 + 1)) (.of (.cons rfl (.cons (by show SV.one (.ref [68] (k23 + 1 + 1 + 1 + 1 + 1)) = SV.one (.ref [68] ((k23 + 1 + 1 + 1 + 1 + 1))); first | rfl | simp_all) (.cons rfl (.cons rfl (.cons (svI (show (IntKind.wrap .i64 ((j : Int) + 1)) = (((j + 1) : Int)) by first | rfl | omega | exact wrap_le (by omega) (by omega) | (rw [wrap_le (by omega) (by omega)]; omega))) .nil))))) (.cons rfl (.cons (rowE (show List.map i64c (p.take (((p.length : Int) - takesN (l.getD j default).op).toNat) ++ [thingV s (l.getD j default)]) = List.map i64c ((nxP s p (l.getD j default))) by first | with_reducible rfl | exact congrArg _ (thing_eq rfl (by omega)).1 | exact congrArg _ (of_eq (by omega)).1 | exact congrArg _ (ap_eq (by omega) (by omega)).1 | rfl)) .nil))) ⟨(show (j + 1) ≤ l.length ∧ evS s l (j + 1) = (0, (nxP s p (l.getD j default))) ∧ PileI d l (j + 1) (nxP s p (l.getD j default)) by exact ⟨by omega, evS_go hI.2.1 (by first | exact (of_eq (by omega)).2.trans c3 | exact (ap_eq (by omega) (by omega)).2.trans c3 | exact (thing_eq rfl (by omega)).2), PileI.next hk hs hf (by omega) hI.2.2⟩), (show l.length - (j + 1) < l.length - j by omega)⟩
   ·have c1 := (by simpa using c1 : ¬ (((takesL ((l.getD j default).op)).length : Int) = 0))
    refine .seq <| .rs fun k25 => .bi rfl <| .as rfl <| .z ?_
    refine .cond (t := ((takesL ((l.getD j default).op)).length : Int) == 1) rfl (fun c2 => ?_) (fun c2 => ?_)
    ·have c2 := (by simpa using c2 : ((takesL ((l.getD j default).op)).length : Int) = 1)
     refine .regD (X := Unit) (by kernel_rfl) (fun ζ => .of [(2, .one (.ptr [2] (k5) 0)), (6, .one (.ref [68] (q8))), (10, .one (.d (.v (.int .i64 ((p.length : Int) - takesN (l.getD j default).op))))), (11, .one (.d (.v (.int .i64 (ofN s (l.getD j default) (p.getD (((p.length : Int) - takesN (l.getD j default).op).toNat) default)))))), (12, .one (.d (.v (.int .i64 (ofC s (l.getD j default) (p.getD (((p.length : Int) - takesN (l.getD j default).op).toNat) default)))))), (13, .one (.d (.sl false 40 2 (List.map Tok.c (l))))), (14, .one (.d (.v (.int .i64 ((l.length : Int)))))), (15, .one (.d (.v (.int .i64 ((j : Int))))))] [([2], (k5, k5, .box [.d (.sl false 2 1 (List.map i64c (s.ints))), .d (.sl false 4 1 (List.map boolc (s.flags))), .d (.sl false 42 1 (List.map slc42 (s.arrs)))])), ([68], (q8, q9, .row 2 1 (List.map i64c (p))))]) [⟨[2], some 51, [[2]], []⟩, ⟨[8], some 52, [[8]], []⟩, ⟨[6], some 53, [], []⟩, ⟨[10], some 54, [], []⟩, ⟨[53, 54], some 55, [[68]], []⟩, ⟨[55], some 56, [[68]], []⟩, ⟨[51, 52, 56], some 57, [], []⟩, ⟨[57], some 50, [], []⟩, ⟨[50], some 58, [], []⟩, ⟨[50], some 59, [], []⟩, ⟨[58], some 11, [], []⟩, ⟨[59], some 12, [], []⟩] (by kernel_rfl) (fun k26 => ?_) ?_
     ·skip
      refine .load (.no rfl) rfl t46 rfl rfl (.ptr _ _ _ _ _ rfl) rfl rfl rfl rfl <| .load (.no rfl) rfl t40 rfl rfl (.ptr _ _ _ _ _ rfl) rfl rfl rfl rfl <| .move (.no rfl) rfl rfl rfl rfl <| .move (.no rfl) rfl rfl rfl rfl <| .indexAddr (.no rfl) rfl (((p.length : Int) - takesN (l.getD j default).op).toNat) t42 rfl t2 rfl rfl rfl (.ref _ _ _ _ _ rfl) rfl rfl (by omega) (map_get (by omega)) rfl rfl <| .load (.no rfl) rfl t2 rfl rfl (.eptr _ _ _ _ _ _ _ _ _ rfl (map_get (by omega))) rfl rfl rfl rfl ?_
      refine .call (.no rfl) rfl [] [] (c_of s (l.getD j default) (p.getD (((p.length : Int) - takesN (l.getD j default).op).toNat) default) (by first | assumption | exact hN9.var | exact hN9.flag | exact hN9.arr | exact (hT9.1 (by omega)).1 | exact (hT9.1 (by omega)).2 | exact (hT9.2 (by omega)).1.1 | exact (hT9.2 (by omega)).1.2 | exact (hT9.2 (by omega)).2) (by first | assumption | exact hN9.var | exact hN9.flag | exact hN9.arr | exact (hT9.1 (by omega)).1 | exact (hT9.1 (by omega)).2 | exact (hT9.2 (by omega)).1.1 | exact (hT9.2 (by omega)).1.2 | exact (hT9.2 (by omega)).2) (by first | assumption | exact hN9.var | exact hN9.flag | exact hN9.arr | exact (hT9.1 (by omega)).1 | exact (hT9.1 (by omega)).2 | exact (hT9.2 (by omega)).1.1 | exact (hT9.2 (by omega)).1.2 | exact (hT9.2 (by omega)).2) (by first | assumption | exact hN9.var | exact hN9.flag | exact hN9.arr | exact (hT9.1 (by omega)).1 | exact (hT9.1 (by omega)).2 | exact (hT9.2 (by omega)).1.1 | exact (hT9.2 (by omega)).1.2 | exact (hT9.2 (by omega)).2)) rfl rfl rfl rfl rfl (.dd (.dd (.dd (.dd (.dd (.dd .nil)))))) rfl rfl (fun h => absurd rfl h) (.own [57, 0] (.own [57, 1] .nil)) (.nil) rfl rfl rfl (by simp) rfl rfl rfl ?_
      refine .move (.no rfl) rfl rfl rfl rfl <| .extract (.no rfl) rfl rfl rfl rfl rfl <| .extract (.no rfl) rfl rfl rfl rfl rfl <| .assign (.no rfl) rfl rfl rfl rfl <| .assign (.no rfl) rfl rfl rfl rfl ?_
      exact .fin () (.of (.r rfl) (.r rfl))
     intro _
     refine .seq <| .seq <| .rs fun k27 => .mv rfl <| .bi rfl <| .z ?_
     refine .cond (t := (ofC s (l.getD j default) (p.getD (((p.length : Int) - takesN (l.getD j default).op).toNat) default)) != 0) rfl (fun c3 => ?_) (fun c3 => ?_)
     ·have c3 := (by simpa using c3 : ¬ ((ofC s (l.getD j default) (p.getD (((p.length : Int) - takesN (l.getD j default).op).toNat) default)) = 0))
      refine .seq <| .rs fun k28 => .mv rfl <| .as rfl <| .as rfl <| .z <| .ret ?_
      exact fin0 (.inr rfl) (.one (svI (show (0) = (evN s l) by first | exact (ev_bad1 hI.2.1 (by omega) (by omega) c3).1 | exact (ev_bad1 hI.2.1 (by omega) (by omega) c3).2 | exact (ev_bad2 hI.2.1 (by omega) (by omega) (by omega) c3).1 | exact (ev_bad2 hI.2.1 (by omega) (by omega) (by omega) c3).2 | exact absurd rfl c3 | exact (ev_end hI.2.1 (by omega) hI.1).1.symm | exact (ev_end hI.2.1 (by omega) hI.1).2.symm)) (.one (svI (show (ofC s (l.getD j default) (p.getD (((p.length : Int) - takesN (l.getD j default).op).toNat) default)) = (evC s l) by first | exact (ev_bad1 hI.2.1 (by omega) (by omega) c3).1 | exact (ev_bad1 hI.2.1 (by omega) (by omega) c3).2 | exact (ev_bad2 hI.2.1 (by omega) (by omega) (by omega) c3).1 | exact (ev_bad2 hI.2.1 (by omega) (by omega) (by omega) c3).2 | exact absurd rfl c3 | exact (ev_end hI.2.1 (by omega) hI.1).1.symm | exact (ev_end hI.2.1 (by omega) hI.1).2.symm)) .nil)) (.dd (.dd .nil)) rfl
     ·have c3 := (by simpa using c3 : (ofC s (l.getD j default) (p.getD (((p.length : Int) - takesN (l.getD j default).op).toNat) default)) = 0)
      refine .skip <| .rs fun k31 => .mv rfl <| .mv rfl <| .g (fun _ τ => ⟨_, .trim (.no rfl) rfl (hv := ((p.length : Int) - takesN (l.getD j default).op).toNat) (els' := List.map i64c (p.take (((p.length : Int) - takesN (l.getD j default).op).toNat))) t42 rfl t2 rfl rfl rfl rfl (by exact ⟨_, nat_iv (a := (p.length : Int) - takesN (l.getD j default).op) (by omega)⟩) (le_map (by omega)) (by rw [List.map_take]) rfl τ⟩) <| .mv rfl <| .g (fun _ τ => ⟨_, .buildSlice (.no rfl) rfl (els := [[.v (.int .i64 (ofN s (l.getD j default) (p.getD (((p.length : Int) - takesN (l.getD j default).op).toNat) default)))]]) t42 rfl z2 rfl rfl rfl rfl rfl rfl rfl rfl (by simp [i2]) (.cons _ _ _ _ _ _ (.d _) .nil) rfl rfl rfl τ⟩) ?_
      refine .g (fun _ τ => ⟨_, .append (.no rfl) rfl (l3 := List.map i64c (p.take (((p.length : Int) - takesN (l.getD j default).op).toNat) ++ [ofN s (l.getD j default) (p.getD (((p.length : Int) - takesN (l.getD j default).op).toNat) default)])) t42 rfl z2 rfl rfl rfl rfl rfl rfl rfl rfl (.ref _ _ _ _ rfl) (.take _ _ _ _ _ rfl) rfl (by first | (simp [i2]; omega) | (simp [i3]; omega)) (map_snoc _ _ _) rfl rfl τ⟩) <| .as rfl <| .z <| .rs fun k32 => .bi rfl <| .mv rfl <| .z ?_
      exact .here ((j + 1), (nxP s p (l.getD j default)), (k31 + 1 + 1 + 1 + 1 + 1), (k31 + 1 + 1 + 1 + 1 + 1)) (.of (.cons rfl (.cons (by show SV.one (.ref [68] (k31 + 1 + 1 + 1 + 1 + 1)) = SV.one (.ref [68] ((k31 + 1 + 1 + 1 + 1 + 1))); first | rfl | simp_all) (.cons rfl (.cons rfl (.cons (svI (show (IntKind.wrap .i64 ((j : Int) + 1)) = (((j + 1) : Int)) by first | rfl | omega | exact wrap_le (by omega) (by omega) | (rw [wrap_le (by omega) (by omega)]; omega))) .nil))))) (.cons rfl (.cons (rowE (show List.map i64c (p.take (((p.length : Int) - takesN (l.getD j default).op).toNat) ++ [ofN s (l.getD j default) (p.getD (((p.length : Int) - takesN (l.getD j default).op).toNat) default)]) = List.map i64c ((nxP s p (l.getD j default))) by first | with_reducible rfl | exact congrArg _ (thing_eq rfl (by omega)).1 | exact congrArg _ (of_eq (by omega)).1 | exact congrArg _ (ap_eq (by omega) (by omega)).1 | rfl)) .nil))) ⟨(show (j + 1) ≤ l.length ∧ evS s l (j + 1) = (0, (nxP s p (l.getD j default))) ∧ PileI d l (j + 1) (nxP s p (l.getD j default)) by exact ⟨by omega, evS_go hI.2.1 (by first | exact (of_eq (by omega)).2.trans c3 | exact (ap_eq (by omega) (by omega)).2.trans c3 | exact (thing_eq rfl (by omega)).2), PileI.next hk hs hf (by omega) hI.2.2⟩), (show l.length - (j + 1) < l.length - j by omega)⟩
    ·have c2 := (by simpa using c2 : ¬ (((takesL ((l.getD j default).op)).length : Int) = 1))
     refine .regD (X := Unit) (by kernel_rfl) (fun ζ => .of [(2, .one (.ptr [2] (k5) 0)), (6, .one (.ref [68] (q8))), (10, .one (.d (.v (.int .i64 ((p.length : Int) - takesN (l.getD j default).op))))), (11, .one (.d (.v (.int .i64 (apN ((l.getD j default).op) (p.getD (((p.length : Int) - takesN (l.getD j default).op).toNat) default) (p.getD (((p.length : Int) - takesN (l.getD j default).op + 1).toNat) default)))))), (12, .one (.d (.v (.int .i64 (apC ((l.getD j default).op) (p.getD (((p.length : Int) - takesN (l.getD j default).op).toNat) default) (p.getD (((p.length : Int) - takesN (l.getD j default).op + 1).toNat) default)))))), (13, .one (.d (.sl false 40 2 (List.map Tok.c (l))))), (14, .one (.d (.v (.int .i64 ((l.length : Int)))))), (15, .one (.d (.v (.int .i64 ((j : Int))))))] [([2], (k5, k5, .box [.d (.sl false 2 1 (List.map i64c (s.ints))), .d (.sl false 4 1 (List.map boolc (s.flags))), .d (.sl false 42 1 (List.map slc42 (s.arrs)))])), ([68], (q8, q9, .row 2 1 (List.map i64c (p))))]) [⟨[8], some 29, [], []⟩, ⟨[29], some 30, [[8]], []⟩, ⟨[6], some 31, [], []⟩, ⟨[10], some 32, [], []⟩, ⟨[31, 32], some 33, [[68]], []⟩, ⟨[33], some 34, [[68]], []⟩, ⟨[6], some 35, [], []⟩, ⟨[10], some 36, [], []⟩, ⟨[36], some 37, [], []⟩, ⟨[35, 37], some 38, [[68]], []⟩, ⟨[38], some 39, [[68]], []⟩, ⟨[30, 34, 39], some 40, [], []⟩, ⟨[40], some 28, [], []⟩, ⟨[28], some 41, [], []⟩, ⟨[28], some 42, [], []⟩, ⟨[41], some 11, [], []⟩, ⟨[42], some 12, [], []⟩] (by kernel_rfl) (fun k33 => ?_) ?_
     ·skip
      refine .fieldAddrP (.no rfl) rfl t40 rfl rfl t2 rfl rfl rfl rfl <| .load (.no rfl) rfl t2 rfl rfl (.ptr _ _ _ _ _ rfl) rfl rfl rfl rfl <| .move (.no rfl) rfl rfl rfl rfl <| .move (.no rfl) rfl rfl rfl rfl <| .indexAddr (.no rfl) rfl (((p.length : Int) - takesN (l.getD j default).op).toNat) t42 rfl t2 rfl rfl rfl (.ref _ _ _ _ _ rfl) rfl rfl (by omega) (map_get (by omega)) rfl rfl <| .load (.no rfl) rfl t2 rfl rfl (.eptr _ _ _ _ _ _ _ _ _ rfl (map_get (by omega))) rfl rfl rfl rfl <| .move (.no rfl) rfl rfl rfl rfl <| .move (.no rfl) rfl rfl rfl rfl <| .binN (.no rfl) rfl (show IntKind.wrap .i64 (((p.length : Int) - takesN (l.getD j default).op) + 1) = (p.length : Int) - takesN (l.getD j default).op + 1 by (exact wrap_le (by omega) (by omega))) rfl rfl rfl rfl rfl ?_
      refine .indexAddr (.no rfl) rfl (((p.length : Int) - takesN (l.getD j default).op + 1).toNat) t42 rfl t2 rfl rfl rfl (.ref _ _ _ _ _ rfl) rfl rfl (by omega) (map_get (by omega)) rfl rfl <| .load (.no rfl) rfl t2 rfl rfl (.eptr _ _ _ _ _ _ _ _ _ rfl (map_get (by omega))) rfl rfl rfl rfl ?_
      refine .call (.no rfl) rfl [] [] (c_apply ((l.getD j default).op) (p.getD (((p.length : Int) - takesN (l.getD j default).op).toNat) default) (p.getD (((p.length : Int) - takesN (l.getD j default).op + 1).toNat) default) (by first | assumption | exact hN9.var | exact hN9.flag | exact hN9.arr | exact (hT9.1 (by omega)).1 | exact (hT9.1 (by omega)).2 | exact (hT9.2 (by omega)).1.1 | exact (hT9.2 (by omega)).1.2 | exact (hT9.2 (by omega)).2) (by first | assumption | exact hN9.var | exact hN9.flag | exact hN9.arr | exact (hT9.1 (by omega)).1 | exact (hT9.1 (by omega)).2 | exact (hT9.2 (by omega)).1.1 | exact (hT9.2 (by omega)).1.2 | exact (hT9.2 (by omega)).2)) rfl rfl rfl rfl rfl (.dd (.dd (.dd .nil))) rfl rfl (fun h => absurd rfl h) (.own [40, 0] (.own [40, 1] .nil)) (.nil) rfl rfl rfl (by simp) rfl rfl rfl <| .move (.no rfl) rfl rfl rfl rfl ?_
      refine .extract (.no rfl) rfl rfl rfl rfl rfl <| .extract (.no rfl) rfl rfl rfl rfl rfl <| .assign (.no rfl) rfl rfl rfl rfl <| .assign (.no rfl) rfl rfl rfl rfl ?_
      exact .fin () (.of (.r rfl) (.r rfl))
     intro _
     refine .seq <| .seq <| .rs fun k34 => .mv rfl <| .bi rfl <| .z ?_
     refine .cond (t := (apC ((l.getD j default).op) (p.getD (((p.length : Int) - takesN (l.getD j default).op).toNat) default) (p.getD (((p.length : Int) - takesN (l.getD j default).op + 1).toNat) default)) != 0) rfl (fun c3 => ?_) (fun c3 => ?_)
     ·have c3 := (by simpa using c3 : ¬ ((apC ((l.getD j default).op) (p.getD (((p.length : Int) - takesN (l.getD j default).op).toNat) default) (p.getD (((p.length : Int) - takesN (l.getD j default).op + 1).toNat) default)) = 0))
      refine .seq <| .rs fun k35 => .mv rfl <| .as rfl <| .as rfl <| .z <| .ret ?_
      exact fin0 (.inr rfl) (.one (svI (show (0) = (evN s l) by first | exact (ev_bad1 hI.2.1 (by omega) (by omega) c3).1 | exact (ev_bad1 hI.2.1 (by omega) (by omega) c3).2 | exact (ev_bad2 hI.2.1 (by omega) (by omega) (by omega) c3).1 | exact (ev_bad2 hI.2.1 (by omega) (by omega) (by omega) c3).2 | exact absurd rfl c3 | exact (ev_end hI.2.1 (by omega) hI.1).1.symm | exact (ev_end hI.2.1 (by omega) hI.1).2.symm)) (.one (svI (show (apC ((l.getD j default).op) (p.getD (((p.length : Int) - takesN (l.getD j default).op).toNat) default) (p.getD (((p.length : Int) - takesN (l.getD j default).op + 1).toNat) default)) = (evC s l) by first | exact (ev_bad1 hI.2.1 (by omega) (by omega) c3).1 | exact (ev_bad1 hI.2.1 (by omega) (by omega) c3).2 | exact (ev_bad2 hI.2.1 (by omega) (by omega) (by omega) c3).1 | exact (ev_bad2 hI.2.1 (by omega) (by omega) (by omega) c3).2 | exact absurd rfl c3 | exact (ev_end hI.2.1 (by omega) hI.1).1.symm | exact (ev_end hI.2.1 (by omega) hI.1).2.symm)) .nil)) (.dd (.dd .nil)) rfl
     ·have c3 := (by simpa using c3 : (apC ((l.getD j default).op) (p.getD (((p.length : Int) - takesN (l.getD j default).op).toNat) default) (p.getD (((p.length : Int) - takesN (l.getD j default).op + 1).toNat) default)) = 0)
      refine .skip <| .rs fun k38 => .mv rfl <| .mv rfl <| .g (fun _ τ => ⟨_, .trim (.no rfl) rfl (hv := ((p.length : Int) - takesN (l.getD j default).op).toNat) (els' := List.map i64c (p.take (((p.length : Int) - takesN (l.getD j default).op).toNat))) t42 rfl t2 rfl rfl rfl rfl (by exact ⟨_, nat_iv (a := (p.length : Int) - takesN (l.getD j default).op) (by omega)⟩) (le_map (by omega)) (by rw [List.map_take]) rfl τ⟩) <| .mv rfl <| .g (fun _ τ => ⟨_, .buildSlice (.no rfl) rfl (els := [[.v (.int .i64 (apN ((l.getD j default).op) (p.getD (((p.length : Int) - takesN (l.getD j default).op).toNat) default) (p.getD (((p.length : Int) - takesN (l.getD j default).op + 1).toNat) default)))]]) t42 rfl z2 rfl rfl rfl rfl rfl rfl rfl rfl (by simp [i2]) (.cons _ _ _ _ _ _ (.d _) .nil) rfl rfl rfl τ⟩) ?_
      refine .g (fun _ τ => ⟨_, .append (.no rfl) rfl (l3 := List.map i64c (p.take (((p.length : Int) - takesN (l.getD j default).op).toNat) ++ [apN ((l.getD j default).op) (p.getD (((p.length : Int) - takesN (l.getD j default).op).toNat) default) (p.getD (((p.length : Int) - takesN (l.getD j default).op + 1).toNat) default)])) t42 rfl z2 rfl rfl rfl rfl rfl rfl rfl rfl (.ref _ _ _ _ rfl) (.take _ _ _ _ _ rfl) rfl (by first | (simp [i2]; omega) | (simp [i3]; omega)) (map_snoc _ _ _) rfl rfl τ⟩) <| .as rfl <| .z <| .rs fun k39 => .bi rfl <| .mv rfl <| .z ?_
      exact .here ((j + 1), (nxP s p (l.getD j default)), (k38 + 1 + 1 + 1 + 1 + 1), (k38 + 1 + 1 + 1 + 1 + 1)) (.of (.cons rfl (.cons (by show SV.one (.ref [68] (k38 + 1 + 1 + 1 + 1 + 1)) = SV.one (.ref [68] ((k38 + 1 + 1 + 1 + 1 + 1))); first | rfl | simp_all) (.cons rfl (.cons rfl (.cons (svI (show (IntKind.wrap .i64 ((j : Int) + 1)) = (((j + 1) : Int)) by first | rfl | omega | exact wrap_le (by omega) (by omega) | (rw [wrap_le (by omega) (by omega)]; omega))) .nil))))) (.cons rfl (.cons (rowE (show List.map i64c (p.take (((p.length : Int) - takesN (l.getD j default).op).toNat) ++ [apN ((l.getD j default).op) (p.getD (((p.length : Int) - takesN (l.getD j default).op).toNat) default) (p.getD (((p.length : Int) - takesN (l.getD j default).op + 1).toNat) default)]) = List.map i64c ((nxP s p (l.getD j default))) by first | with_reducible rfl | exact congrArg _ (thing_eq rfl (by omega)).1 | exact congrArg _ (of_eq (by omega)).1 | exact congrArg _ (ap_eq (by omega) (by omega)).1 | rfl)) .nil))) ⟨(show (j + 1) ≤ l.length ∧ evS s l (j + 1) = (0, (nxP s p (l.getD j default))) ∧ PileI d l (j + 1) (nxP s p (l.getD j default)) by exact ⟨by omega, evS_go hI.2.1 (by first | exact (of_eq (by omega)).2.trans c3 | exact (ap_eq (by omega) (by omega)).2.trans c3 | exact (thing_eq rfl (by omega)).2), PileI.next hk hs hf (by omega) hI.2.2⟩), (show l.length - (j + 1) < l.length - j by omega)⟩
  ·have c0 := of_decide_eq_false c0
   have hE9 := pile_end hk (by omega) hI.1 hI.2.2
   refine .exit <| .seq <| .rs fun k40 => .mv rfl <| .g (fun _ τ => ⟨_, .indexAddr (.no rfl) rfl (0) t42 rfl t2 rfl rfl rfl (.ref _ _ _ _ _ rfl) rfl rfl rfl (map_get (by omega)) rfl rfl τ⟩) <| .ld t2 rfl (.eptr _ _ _ _ _ _ _ _ _ rfl (map_get (by omega))) rfl <| .as rfl <| .as rfl <| .z ?_
   refine .ret ?_
   exact fin0 (.inr rfl) (.one (svI (show (p.getD 0 default) = (evN s l) by first | exact (ev_bad1 hI.2.1 (by omega) (by omega) c3).1 | exact (ev_bad1 hI.2.1 (by omega) (by omega) c3).2 | exact (ev_bad2 hI.2.1 (by omega) (by omega) (by omega) c3).1 | exact (ev_bad2 hI.2.1 (by omega) (by omega) (by omega) c3).2 | exact absurd rfl c3 | exact (ev_end hI.2.1 (by omega) hI.1).1.symm | exact (ev_end hI.2.1 (by omega) hI.1).2.symm)) (.one (svI (show (0) = (evC s l) by first | exact (ev_bad1 hI.2.1 (by omega) (by omega) c3).1 | exact (ev_bad1 hI.2.1 (by omega) (by omega) c3).2 | exact (ev_bad2 hI.2.1 (by omega) (by omega) (by omega) c3).1 | exact (ev_bad2 hI.2.1 (by omega) (by omega) (by omega) c3).2 | exact absurd rfl c3 | exact (ev_end hI.2.1 (by omega) hI.1).1.symm | exact (ev_end hI.2.1 (by omega) hI.1).2.symm)) .nil)) (.dd (.dd .nil)) rfl
end Go.Proofs

namespace Go.Proofs
open Go Go.Proofs Go.Ev

theorem c_Eval (d : Decl) (l : List Tok) (s : Store) (hs : ∀ x ∈ Decl.names d, x.size ≤ 9223372036854775807) (hb : d.vars.length ≤ 1048576 ∧ d.flags.length ≤ 1048576 ∧ d.arrays.length ≤ 1048576) (hm : Store.small s) (hf : FitS s) (hl : l.length ≤ 1048576) : Trip Tryd.prog 13 [(true, 3), (false, 1), (true, 3)] (Decl.c36 d ++ [.sl false 40 2 (List.map Tok.c (l))] ++ Store.c46 s) [(false, 1), (false, 1)] [.v (.int .i64 (Eval.n d l s)), .v (.int .i64 (Eval.c d l s))] [] := by
 refine Trip.of Tryd.func13 (by decide) (c := _) rfl rfl (Nat.le_of_ble_eq_true rfl) rfl (AftOk.nil _) <| .sla (t := 0) 0 rfl rfl fun hs1l => .sla (t := 0) 1 rfl rfl fun hs2l => .sla (t := 0) 2 rfl rfl fun hs3l => .sl (t := 1) rfl fun hs4l => .sla (t := 2) 0 rfl rfl fun hs5l => .sla (t := 2) 1 rfl rfl fun hs6l => .sla (t := 2) 2 rfl rfl fun hs7l => ?_
 have hm1 := hm.1
 have hm2 := hm.2.1
 have hm3 := hm.2.2.1
 have hm4 := hm.2.2.2
 refine .seq <| .rs fun k8 => .g (fun _ τ => ⟨_, .box (.no rfl) rfl rfl rfl rfl rfl τ⟩) <| .g (fun _ τ => ⟨_, .box (.no rfl) rfl rfl rfl rfl rfl τ⟩) <| .as rfl <| .as rfl <| .z <| .seq <| .seq ?_
 refine .reg (X := Unit) (fun ζ => .of [(1, .one (.d (.sl false 40 2 (List.map Tok.c (l))))), (5, .one (.ptr [5] (k8 + 1) 0)), (17, .one (.d (.v (.bool ((!(Store.ok d s) || (Expr.kind d l) == 0))))))] [([5], (k8 + 1, k8 + 1, .box [.d (.sl false 2 1 (List.map i64c (s.ints))), .d (.sl false 4 1 (List.map boolc (s.flags))), .d (.sl false 42 1 (List.map slc42 (s.arrs)))]))]) [⟨[3], some 8, [[3]], []⟩, ⟨[5], some 9, [[5]], []⟩, ⟨[8, 9], some 10, [], []⟩, ⟨[10], some 11, [], []⟩, ⟨[11], some 12, [], []⟩, ⟨[12, 3], some 13, [[3]], []⟩, ⟨[12, 1], some 14, [], []⟩, ⟨[12, 13, 14], some 15, [], []⟩, ⟨[12, 15], some 16, [], []⟩, ⟨[12, 16], some 17, [], []⟩] (fun k9 => ?_) ?_
 ·skip
  refine .load (.no rfl) rfl t36 rfl rfl (.ptr _ _ _ _ _ rfl) rfl rfl rfl rfl <| .load (.no rfl) rfl t46 rfl rfl (.ptr _ _ _ _ _ rfl) rfl rfl rfl rfl <| .call (.no rfl) rfl [] [] (c_StoreOk d s (by first | assumption | omega | exact ⟨d, c0.2, (Bool.and_eq_true_iff.1 c0.1).2⟩ | exact ⟨d, by rw [← kindIn_ok c0.1]; exact c0.2, (Bool.and_eq_true_iff.1 c0.1).2⟩) (by first | assumption | omega | exact ⟨d, c0.2, (Bool.and_eq_true_iff.1 c0.1).2⟩ | exact ⟨d, by rw [← kindIn_ok c0.1]; exact c0.2, (Bool.and_eq_true_iff.1 c0.1).2⟩)) rfl rfl rfl rfl rfl (.dd (.dd (.dd (.dd (.dd (.dd .nil)))))) rfl rfl (fun h => absurd rfl h) (.own [10, 0] .nil) (.nil) rfl rfl rfl (by simp) rfl rfl rfl <| .un (.no rfl) rfl rfl rfl rfl rfl <| .moveB (.no rfl) rfl rfl rfl rfl fun b10 g1_4 => ?_
  cases b10
  ·skip
   refine .load (.on rfl rfl rfl rfl rfl) rfl t36 rfl rfl (.ptr _ _ _ _ _ rfl) rfl rfl rfl rfl <| .move (.on rfl rfl rfl rfl rfl) rfl rfl rfl rfl <| .call (.on rfl rfl rfl rfl rfl) rfl [] [] (c_kindOf d l) rfl rfl rfl rfl rfl (.dd (.dd (.dd (.dd .nil)))) rfl rfl (fun h => absurd rfl h) (.own [15, 0] .nil) (.nil) rfl rfl rfl (by simp) rfl rfl rfl <| .bin (.on rfl rfl rfl rfl rfl) rfl rfl rfl rfl rfl rfl <| .pick (.no rfl) rfl rfl rfl rfl rfl ?_
   exact .fin () (.of (.cons rfl (.cons rfl (.cons (svB (show ((Expr.kind d l) == 0) = ((!(Store.ok d s) || (Expr.kind d l) == 0)) by first | (simp only [g1_4, Bool.true_or, Bool.false_or, Bool.true_and, Bool.false_and, Bool.not_true, Bool.not_false]; done) | (simp [g1_4]; done) | (exfalso; simp_all; done))) .nil))) (.r rfl))
  ·skip
   refine .off rfl rfl rfl rfl rfl rfl rfl <| .off rfl rfl rfl rfl rfl rfl rfl <| .off rfl rfl rfl rfl rfl rfl rfl <| .off rfl rfl rfl rfl rfl rfl rfl <| .pick (.no rfl) rfl rfl rfl rfl rfl ?_
   exact .fin () (.of (.cons rfl (.cons rfl (.cons (svB (show (true) = ((!(Store.ok d s) || (Expr.kind d l) == 0)) by first | (simp only [g1_4, Bool.true_or, Bool.false_or, Bool.true_and, Bool.false_and, Bool.not_true, Bool.not_false]; done) | (simp [g1_4]; done) | (exfalso; simp_all; done))) .nil))) (.r rfl))
 intro _
 refine .cond (t := (!(Store.ok d s) || (Expr.kind d l) == 0)) rfl (fun c0 => ?_) (fun c0 => ?_)
 ·have c0 := (oT (nT id) eT) c0
  refine .seq <| .rs fun k11 => .as rfl <| .as rfl <| .z <| .ret ?_
  exact fin0 (.inr rfl) (.one (svI (show (0) = (Eval.n d l s) by (first | exact (eval_no c0).1 | exact (eval_no c0).2 | exact (eval_yes c0).1 | exact (eval_yes c0).2))) (.one (svI (show (1) = (Eval.c d l s) by (first | exact (eval_no c0).1 | exact (eval_no c0).2 | exact (eval_yes c0).1 | exact (eval_yes c0).2))) .nil)) (.dd (.dd .nil)) rfl
 ·have c0 := (oF (nF id) eF) c0
  refine .skip <| .seq <| .rs fun k14 => .lda t46 rfl (.ptr _ _ _ _ _ rfl) rfl <| .mv rfl <| .c0 (c_eval s l (by first | assumption | omega | exact ⟨d, c0.2, (Bool.and_eq_true_iff.1 c0.1).2⟩ | exact ⟨d, by rw [← kindIn_ok c0.1]; exact c0.2, (Bool.and_eq_true_iff.1 c0.1).2⟩) (by first | assumption | omega | exact ⟨d, c0.2, (Bool.and_eq_true_iff.1 c0.1).2⟩ | exact ⟨d, by rw [← kindIn_ok c0.1]; exact c0.2, (Bool.and_eq_true_iff.1 c0.1).2⟩) (by first | assumption | omega | exact ⟨d, c0.2, (Bool.and_eq_true_iff.1 c0.1).2⟩ | exact ⟨d, by rw [← kindIn_ok c0.1]; exact c0.2, (Bool.and_eq_true_iff.1 c0.1).2⟩)) rfl (.dd (.dd (.dd (.dd .nil)))) (.own [20, 0] (.own [20, 1] .nil)) rfl <| .g (fun _ τ => ⟨_, .extract (.no rfl) rfl rfl rfl rfl rfl τ⟩) <| .g (fun _ τ => ⟨_, .extract (.no rfl) rfl rfl rfl rfl rfl τ⟩) <| .as rfl ?_
  refine .as rfl <| .z <| .ret ?_
  exact fin0 (.inr rfl) (.one (svI (show (evN s l) = (Eval.n d l s) by (first | exact (eval_no c0).1 | exact (eval_no c0).2 | exact (eval_yes c0).1 | exact (eval_yes c0).2))) (.one (svI (show (evC s l) = (Eval.c d l s) by (first | exact (eval_no c0).1 | exact (eval_no c0).2 | exact (eval_yes c0).1 | exact (eval_yes c0).2))) .nil)) (.dd (.dd .nil)) rfl
end Go.Proofs

namespace Go.Proofs
open Go Go.Proofs Go.Ev

theorem e25 : Eq2Ok Tryd.prog 25 2 .i64 := ⟨by kernel_rfl, by kernel_rfl, by kernel_rfl, by kernel_rfl, Tryd.underlying2⟩
theorem c_one (n : Int) : Trip Tryd.prog 59 [(false, 1)] ([.v (.int .i64 (n))]) [(true, 2)] [.v (.int .i64 ((Iv.mk n n).lo)), .v (.int .i64 ((Iv.mk n n).hi))] [] := by
 refine Trip.of Tryd.func59 (by decide) (c := _) rfl rfl (Nat.le_of_ble_eq_true rfl) rfl (AftOk.nil _) <| .seq <| .rs fun k1 => .g (fun _ τ => ⟨_, .alloc (.no rfl) rfl z25 rfl rfl rfl τ⟩) <| .z <| .seq <| .rs fun k2 => .mv rfl <| .mv rfl ?_
 refine .g (fun _ τ => ⟨_, .build (.no rfl) rfl z25 rfl p25 rfl rfl rfl rfl τ⟩) <| .g (fun _ τ => ⟨_, .store (.no rfl) rfl t25 rfl rfl rfl rfl rfl rfl rfl rfl rfl τ⟩) <| .z <| .ret ?_
 have e3 : (n) = ((Iv.mk n n).lo) := by rfl
 have e4 : (n) = ((Iv.mk n n).hi) := by rfl
 have hc5 := eq2 (fun z1 z2 => some (k1, k2 + 1 + 1 + 1, O.box [.d (.v (.int .i64 (z1))), .d (.v (.int .i64 (z2)))])) e3 e4
 exact fin0 (.inr rfl) (.cell (cells := [.d (.v (.int .i64 ((Iv.mk n n).lo))), .d (.v (.int .i64 ((Iv.mk n n).hi)))]) rfl hc5 t25 rfl rfl .nil) (.dd (.dd .nil)) rfl
theorem c_truthOf (f : Bool) (h : Bool) : Trip Tryd.prog 32 [(false, 1), (false, 1)] ([.v (.bool (f))] ++ [.v (.bool (h))]) [(true, 2)] [.v (.int .i64 ((truthI f h).lo)), .v (.int .i64 ((truthI f h).hi))] [] := by
 refine Trip.of Tryd.func32 (by decide) (c := _) rfl rfl (Nat.le_of_ble_eq_true rfl) rfl (AftOk.nil _) <| .seq <| .rs fun k1 => .g (fun _ τ => ⟨_, .alloc (.no rfl) rfl z25 rfl rfl rfl τ⟩) <| .z <| .seq <| .block <| .seq <| .rs fun k2 => ?_
 refine .mv rfl <| .un rfl <| .as rfl <| .z ?_
 refine .cond (t := !f) rfl (fun c0 => ?_) (fun c0 => ?_)
 ·have c0 := (nT id) c0
  refine .seq <| .rs fun k3 => .c0 (c_one 1) rfl (.dd .nil) (.own [8, 0] (.own [8, 1] .nil)) rfl <| .g (fun _ τ => ⟨_, .store (.no rfl) rfl t25 rfl rfl rfl rfl rfl rfl rfl rfl rfl τ⟩) <| .z <| .ret ?_
  have e4 : ((Iv.mk 1 1).lo) = ((truthI f h).lo) := by (unfold truthI; first | (rw [if_pos c0]; done) | (rw [if_neg (by rw [c0]; decide), if_pos c1]; done) | (rw [if_neg (by rw [c0]; decide), if_neg (by rw [c1]; decide)]; done) | (simp_all; done))
  have e5 : ((Iv.mk 1 1).hi) = ((truthI f h).hi) := by (unfold truthI; first | (rw [if_pos c0]; done) | (rw [if_neg (by rw [c0]; decide), if_pos c1]; done) | (rw [if_neg (by rw [c0]; decide), if_neg (by rw [c1]; decide)]; done) | (simp_all; done))
  have hc6 := eq2 (fun z1 z2 => some (k1, k3 + 1, O.box [.d (.v (.int .i64 (z1))), .d (.v (.int .i64 (z2)))])) e4 e5
  exact fin0 (.inr rfl) (.cell (cells := [.d (.v (.int .i64 ((truthI f h).lo))), .d (.v (.int .i64 ((truthI f h).hi)))]) rfl hc6 t25 rfl rfl .nil) (.dd (.dd .nil)) rfl
 ·have c0 := (nF id) c0
  refine .seq <| .rs fun k7 => .mv rfl <| .un rfl <| .as rfl <| .z ?_
  refine .cond (t := !h) rfl (fun c1 => ?_) (fun c1 => ?_)
  ·have c1 := (nT id) c1
   refine .seq <| .rs fun k8 => .c0 (c_one 0) rfl (.dd .nil) (.own [12, 0] (.own [12, 1] .nil)) rfl <| .g (fun _ τ => ⟨_, .store (.no rfl) rfl t25 rfl rfl rfl rfl rfl rfl rfl rfl rfl τ⟩) <| .z <| .ret ?_
   have e9 : ((Iv.mk 0 0).lo) = ((truthI f h).lo) := by (unfold truthI; first | (rw [if_pos c0]; done) | (rw [if_neg (by rw [c0]; decide), if_pos c1]; done) | (rw [if_neg (by rw [c0]; decide), if_neg (by rw [c1]; decide)]; done) | (simp_all; done))
   have e10 : ((Iv.mk 0 0).hi) = ((truthI f h).hi) := by (unfold truthI; first | (rw [if_pos c0]; done) | (rw [if_neg (by rw [c0]; decide), if_pos c1]; done) | (rw [if_neg (by rw [c0]; decide), if_neg (by rw [c1]; decide)]; done) | (simp_all; done))
   have hc11 := eq2 (fun z1 z2 => some (k1, k8 + 1, O.box [.d (.v (.int .i64 (z1))), .d (.v (.int .i64 (z2)))])) e9 e10
   exact fin0 (.inr rfl) (.cell (cells := [.d (.v (.int .i64 ((truthI f h).lo))), .d (.v (.int .i64 ((truthI f h).hi)))]) rfl hc11 t25 rfl rfl .nil) (.dd (.dd .nil)) rfl
  ·have c1 := (nF id) c1
   refine .skip <| .seq <| .rs fun k12 => .g (fun _ τ => ⟨_, .build (.no rfl) rfl z25 rfl p25 rfl rfl rfl rfl τ⟩) <| .g (fun _ τ => ⟨_, .store (.no rfl) rfl t25 rfl rfl rfl rfl rfl rfl rfl rfl rfl τ⟩) <| .z <| .ret ?_
   have e13 : (0) = ((truthI f h).lo) := by (unfold truthI; first | (rw [if_pos c0]; done) | (rw [if_neg (by rw [c0]; decide), if_pos c1]; done) | (rw [if_neg (by rw [c0]; decide), if_neg (by rw [c1]; decide)]; done) | (simp_all; done))
   have e14 : (1) = ((truthI f h).hi) := by (unfold truthI; first | (rw [if_pos c0]; done) | (rw [if_neg (by rw [c0]; decide), if_pos c1]; done) | (rw [if_neg (by rw [c0]; decide), if_neg (by rw [c1]; decide)]; done) | (simp_all; done))
   have hc15 := eq2 (fun z1 z2 => some (k1, k12 + 1, O.box [.d (.v (.int .i64 (z1))), .d (.v (.int .i64 (z2)))])) e13 e14
   exact fin0 (.inr rfl) (.cell (cells := [.d (.v (.int .i64 ((truthI f h).lo))), .d (.v (.int .i64 ((truthI f h).hi)))]) rfl hc15 t25 rfl rfl .nil) (.dd (.dd .nil)) rfl
theorem c_opposite (op : Int) : Trip Tryd.prog 34 [(false, 1)] ([.v (.int .i64 (op))]) [(false, 1)] [.v (.int .i64 (oppN op))] [] := by
 refine Trip.of Tryd.func34 (by decide) (c := _) rfl rfl (Nat.le_of_ble_eq_true rfl) rfl (AftOk.nil _) <| .seq <| .rs fun k1 => .as rfl <| .z <| .seq <| .seq <| .rs fun k2 => .mv rfl ?_
 refine .z <| .block <| .seq <| .rs fun k3 => .bi rfl <| .as rfl <| .z ?_
 refine .cond (t := op == 13) rfl (fun c0 => ?_) (fun c0 => ?_)
 ·have c0 := (by simpa using c0 : op = 13)
  refine .seq <| .rs fun k4 => .as rfl <| .z <| .ret ?_
  exact fin0 (.inr rfl) (.one (svI (show (18) = (oppN op) by (unfold oppN; simp_all))) .nil) (.dd .nil) rfl
 ·have c0 := (by simpa using c0 : ¬ (op = 13))
  refine .seq <| .rs fun k6 => .bi rfl <| .as rfl <| .z ?_
  refine .cond (t := op == 14) rfl (fun c1 => ?_) (fun c1 => ?_)
  ·have c1 := (by simpa using c1 : op = 14)
   refine .seq <| .rs fun k7 => .as rfl <| .z <| .ret ?_
   exact fin0 (.inr rfl) (.one (svI (show (17) = (oppN op) by (unfold oppN; simp_all))) .nil) (.dd .nil) rfl
  ·have c1 := (by simpa using c1 : ¬ (op = 14))
   refine .seq <| .rs fun k9 => .bi rfl <| .as rfl <| .z ?_
   refine .cond (t := op == 15) rfl (fun c2 => ?_) (fun c2 => ?_)
   ·have c2 := (by simpa using c2 : op = 15)
    refine .seq <| .rs fun k10 => .as rfl <| .z <| .ret ?_
    exact fin0 (.inr rfl) (.one (svI (show (16) = (oppN op) by (unfold oppN; simp_all))) .nil) (.dd .nil) rfl
   ·have c2 := (by simpa using c2 : ¬ (op = 15))
    refine .seq <| .rs fun k12 => .bi rfl <| .as rfl <| .z ?_
    refine .cond (t := op == 16) rfl (fun c3 => ?_) (fun c3 => ?_)
    ·have c3 := (by simpa using c3 : op = 16)
     refine .seq <| .rs fun k13 => .as rfl <| .z <| .ret ?_
     exact fin0 (.inr rfl) (.one (svI (show (15) = (oppN op) by (unfold oppN; simp_all))) .nil) (.dd .nil) rfl
    ·have c3 := (by simpa using c3 : ¬ (op = 16))
     refine .seq <| .rs fun k15 => .bi rfl <| .as rfl <| .z ?_
     refine .cond (t := op == 17) rfl (fun c4 => ?_) (fun c4 => ?_)
     ·have c4 := (by simpa using c4 : op = 17)
      refine .seq <| .rs fun k16 => .as rfl <| .z <| .ret ?_
      exact fin0 (.inr rfl) (.one (svI (show (14) = (oppN op) by (unfold oppN; simp_all))) .nil) (.dd .nil) rfl
     ·have c4 := (by simpa using c4 : ¬ (op = 17))
      refine .skip <| .seq <| .rs fun k18 => .as rfl <| .z <| .ret ?_
      exact fin0 (.inr rfl) (.one (svI (show (13) = (oppN op) by (unfold oppN; simp_all))) .nil) (.dd .nil) rfl
theorem c_turned (op : Int) : Trip Tryd.prog 60 [(false, 1)] ([.v (.int .i64 (op))]) [(false, 1)] [.v (.int .i64 (turnN op))] [] := by
 refine Trip.of Tryd.func60 (by decide) (c := _) rfl rfl (Nat.le_of_ble_eq_true rfl) rfl (AftOk.nil _) <| .seq <| .rs fun k1 => .as rfl <| .z <| .seq <| .seq <| .rs fun k2 => .mv rfl ?_
 refine .z <| .block <| .seq <| .rs fun k3 => .bi rfl <| .as rfl <| .z ?_
 refine .cond (t := op == 13) rfl (fun c0 => ?_) (fun c0 => ?_)
 ·have c0 := (by simpa using c0 : op = 13)
  refine .seq <| .rs fun k4 => .as rfl <| .z <| .ret ?_
  exact fin0 (.inr rfl) (.one (svI (show (17) = (turnN op) by (unfold turnN; simp_all))) .nil) (.dd .nil) rfl
 ·have c0 := (by simpa using c0 : ¬ (op = 13))
  refine .seq <| .rs fun k6 => .bi rfl <| .as rfl <| .z ?_
  refine .cond (t := op == 14) rfl (fun c1 => ?_) (fun c1 => ?_)
  ·have c1 := (by simpa using c1 : op = 14)
   refine .seq <| .rs fun k7 => .as rfl <| .z <| .ret ?_
   exact fin0 (.inr rfl) (.one (svI (show (18) = (turnN op) by (unfold turnN; simp_all))) .nil) (.dd .nil) rfl
  ·have c1 := (by simpa using c1 : ¬ (op = 14))
   refine .seq <| .rs fun k9 => .bi rfl <| .as rfl <| .z ?_
   refine .cond (t := op == 17) rfl (fun c2 => ?_) (fun c2 => ?_)
   ·have c2 := (by simpa using c2 : op = 17)
    refine .seq <| .rs fun k10 => .as rfl <| .z <| .ret ?_
    exact fin0 (.inr rfl) (.one (svI (show (13) = (turnN op) by (unfold turnN; simp_all))) .nil) (.dd .nil) rfl
   ·have c2 := (by simpa using c2 : ¬ (op = 17))
    refine .seq <| .rs fun k12 => .bi rfl <| .as rfl <| .z ?_
    refine .cond (t := op == 18) rfl (fun c3 => ?_) (fun c3 => ?_)
    ·have c3 := (by simpa using c3 : op = 18)
     refine .seq <| .rs fun k13 => .as rfl <| .z <| .ret ?_
     exact fin0 (.inr rfl) (.one (svI (show (14) = (turnN op) by (unfold turnN; simp_all))) .nil) (.dd .nil) rfl
    ·have c3 := (by simpa using c3 : ¬ (op = 18))
     refine .skip <| .seq <| .rs fun k15 => .mv rfl <| .as rfl <| .z <| .ret ?_
     exact fin0 (.inr rfl) (.one (svI (show (op) = (turnN op) by (unfold turnN; simp_all))) .nil) (.dd .nil) rfl
theorem c_mayHoldR (N : Nat) : ∀ (op : Int) (a : Iv) (b : Iv) (ho : 13 ≤ op ∧ op ≤ 18) (hN : (op - 16).toNat < N), Trip Tryd.prog 33 [(false, 1), (true, 2), (true, 2)] ([.v (.int .i64 (op))] ++ Iv.c a ++ Iv.c b) [(false, 1)] [.v (.bool (mayB op a b))] [] := by
 induction N with
 | zero => intros; omega
 | succ N ih =>
 intro op a b ho hN
 refine Trip.of Tryd.func33 (by decide) (c := _) rfl rfl (Nat.le_of_ble_eq_true rfl) rfl (AftOk.nil _) <| .seq <| .rs fun k1 => .g (fun _ τ => ⟨_, .box (.no rfl) rfl rfl rfl rfl rfl τ⟩) <| .g (fun _ τ => ⟨_, .box (.no rfl) rfl rfl rfl rfl rfl τ⟩) <| .as rfl <| .z <| .seq <| .seq ?_
 refine .rs fun k2 => .mv rfl <| .z <| .block <| .seq <| .rs fun k3 => .bi rfl <| .as rfl <| .z ?_
 refine .cond (t := op == 13) rfl (fun c0 => ?_) (fun c0 => ?_)
 ·have c0 := (by simpa using c0 : op = 13)
  refine .seq <| .rs fun k4 => .fp t25 t2 rfl <| .ld t2 rfl (.ptr _ _ _ _ _ rfl) rfl <| .fp t25 t2 rfl <| .ld t2 rfl (.ptr _ _ _ _ _ rfl) rfl <| .bi rfl <| .as rfl <| .z ?_
  refine .ret ?_
  exact fin0 (.inr rfl) (.one (svB (show (decide (a.lo < b.hi)) = (mayB op a b) by (first | (unfold mayB; first | (rw [if_pos c0]; done) | (rw [if_neg c0, if_pos c1]; done) | (rw [if_neg c0, if_neg c1, if_pos c2]; done)) | (unfold mayB; rw [if_neg c0, if_neg c1, if_neg c2, if_pos c3]; rw [Bool.eq_iff_iff]; simp; done) | (unfold mayB; rw [if_neg c0, if_neg c1, if_neg c2, if_pos c3]; rw [Bool.eq_iff_iff]; simp; omega) | (rw [turn_may (by omega)])))) .nil) (.dd .nil) rfl
 ·have c0 := (by simpa using c0 : ¬ (op = 13))
  refine .seq <| .rs fun k6 => .bi rfl <| .as rfl <| .z ?_
  refine .cond (t := op == 14) rfl (fun c1 => ?_) (fun c1 => ?_)
  ·have c1 := (by simpa using c1 : op = 14)
   refine .seq <| .rs fun k7 => .fp t25 t2 rfl <| .ld t2 rfl (.ptr _ _ _ _ _ rfl) rfl <| .fp t25 t2 rfl <| .ld t2 rfl (.ptr _ _ _ _ _ rfl) rfl <| .bi rfl <| .as rfl <| .z ?_
   refine .ret ?_
   exact fin0 (.inr rfl) (.one (svB (show (decide (a.lo ≤ b.hi)) = (mayB op a b) by (first | (unfold mayB; first | (rw [if_pos c0]; done) | (rw [if_neg c0, if_pos c1]; done) | (rw [if_neg c0, if_neg c1, if_pos c2]; done)) | (unfold mayB; rw [if_neg c0, if_neg c1, if_neg c2, if_pos c3]; rw [Bool.eq_iff_iff]; simp; done) | (unfold mayB; rw [if_neg c0, if_neg c1, if_neg c2, if_pos c3]; rw [Bool.eq_iff_iff]; simp; omega) | (rw [turn_may (by omega)])))) .nil) (.dd .nil) rfl
  ·have c1 := (by simpa using c1 : ¬ (op = 14))
   refine .seq <| .rs fun k9 => .bi rfl <| .as rfl <| .z ?_
   refine .cond (t := op == 15) rfl (fun c2 => ?_) (fun c2 => ?_)
   ·have c2 := (by simpa using c2 : op = 15)
    refine .seq ?_
    refine .reg (X := Unit) (fun ζ => .of [(6, .one (.d (.v (.bool ((decide (a.lo ≤ b.hi) && decide (b.lo ≤ a.hi)))))))] []) [⟨[4], some 24, [], []⟩, ⟨[24], some 25, [[4]], []⟩, ⟨[5], some 26, [], []⟩, ⟨[26], some 27, [[5]], []⟩, ⟨[25, 27], some 28, [], []⟩, ⟨[28], some 29, [], []⟩, ⟨[29, 5], some 30, [], []⟩, ⟨[29, 30], some 31, [[5]], []⟩, ⟨[29, 4], some 32, [], []⟩, ⟨[29, 32], some 33, [[4]], []⟩, ⟨[29, 31, 33], some 34, [], []⟩, ⟨[29, 34], some 35, [], []⟩, ⟨[35], some 6, [], []⟩] (fun k10 => ?_) ?_
    ·skip
     refine .fieldAddrP (.no rfl) rfl t25 rfl rfl t2 rfl rfl rfl rfl <| .load (.no rfl) rfl t2 rfl rfl (.ptr _ _ _ _ _ rfl) rfl rfl rfl rfl <| .fieldAddrP (.no rfl) rfl t25 rfl rfl t2 rfl rfl rfl rfl <| .load (.no rfl) rfl t2 rfl rfl (.ptr _ _ _ _ _ rfl) rfl rfl rfl rfl <| .bin (.no rfl) rfl rfl rfl rfl rfl rfl <| .moveB (.no rfl) rfl rfl rfl rfl fun b11 g7_5 => ?_
     cases b11
     ·skip
      refine .off rfl rfl rfl rfl rfl rfl rfl <| .off rfl rfl rfl rfl rfl rfl rfl <| .off rfl rfl rfl rfl rfl rfl rfl <| .off rfl rfl rfl rfl rfl rfl rfl <| .off rfl rfl rfl rfl rfl rfl rfl <| .pick (.no rfl) rfl rfl rfl rfl rfl <| .assign (.no rfl) rfl rfl rfl rfl ?_
      exact .fin () (.of (.cons (svB (show (false) = ((decide (a.lo ≤ b.hi) && decide (b.lo ≤ a.hi))) by first | (simp only [g7_5, Bool.true_or, Bool.false_or, Bool.true_and, Bool.false_and, Bool.not_true, Bool.not_false]; done) | (simp [g7_5]; done) | (exfalso; simp_all; done))) .nil) .nil)
     ·skip
      refine .fieldAddrP (.on rfl rfl rfl rfl rfl) rfl t25 rfl rfl t2 rfl rfl rfl rfl <| .load (.on rfl rfl rfl rfl rfl) rfl t2 rfl rfl (.ptr _ _ _ _ _ rfl) rfl rfl rfl rfl <| .fieldAddrP (.on rfl rfl rfl rfl rfl) rfl t25 rfl rfl t2 rfl rfl rfl rfl <| .load (.on rfl rfl rfl rfl rfl) rfl t2 rfl rfl (.ptr _ _ _ _ _ rfl) rfl rfl rfl rfl <| .bin (.on rfl rfl rfl rfl rfl) rfl rfl rfl rfl rfl rfl <| .pick (.no rfl) rfl rfl rfl rfl rfl <| .assign (.no rfl) rfl rfl rfl rfl ?_
      exact .fin () (.of (.cons (svB (show (decide (b.lo ≤ a.hi)) = ((decide (a.lo ≤ b.hi) && decide (b.lo ≤ a.hi))) by first | (simp only [g7_5, Bool.true_or, Bool.false_or, Bool.true_and, Bool.false_and, Bool.not_true, Bool.not_false]; done) | (simp [g7_5]; done) | (exfalso; simp_all; done))) .nil) .nil)
    intro _
    refine .ret ?_
    exact fin0 (.inr rfl) (.one (svB (show ((decide (a.lo ≤ b.hi) && decide (b.lo ≤ a.hi))) = (mayB op a b) by (first | (unfold mayB; first | (rw [if_pos c0]; done) | (rw [if_neg c0, if_pos c1]; done) | (rw [if_neg c0, if_neg c1, if_pos c2]; done)) | (unfold mayB; rw [if_neg c0, if_neg c1, if_neg c2, if_pos c3]; rw [Bool.eq_iff_iff]; simp; done) | (unfold mayB; rw [if_neg c0, if_neg c1, if_neg c2, if_pos c3]; rw [Bool.eq_iff_iff]; simp; omega) | (rw [turn_may (by omega)])))) .nil) (.dd .nil) rfl
   ·have c2 := (by simpa using c2 : ¬ (op = 15))
    refine .seq <| .rs fun k13 => .bi rfl <| .as rfl <| .z ?_
    refine .cond (t := op == 16) rfl (fun c3 => ?_) (fun c3 => ?_)
    ·have c3 := (by simpa using c3 : op = 16)
     refine .seq ?_
     refine .reg (X := Unit) (fun ζ => .of [(6, .one (.d (.v (.bool (((a.lo != a.hi || b.lo != b.hi) || a.lo != b.lo))))))] []) [⟨[4], some 38, [], []⟩, ⟨[38], some 39, [[4]], []⟩, ⟨[4], some 40, [], []⟩, ⟨[40], some 41, [[4]], []⟩, ⟨[39, 41], some 42, [], []⟩, ⟨[42], some 43, [], []⟩, ⟨[43, 5], some 44, [], []⟩, ⟨[43, 44], some 45, [[5]], []⟩, ⟨[43, 5], some 46, [], []⟩, ⟨[43, 46], some 47, [[5]], []⟩, ⟨[43, 45, 47], some 48, [], []⟩, ⟨[43, 48], some 49, [], []⟩, ⟨[49], some 50, [], []⟩, ⟨[50, 4], some 51, [], []⟩, ⟨[50, 51], some 52, [[4]], []⟩, ⟨[50, 5], some 53, [], []⟩, ⟨[50, 53], some 54, [[5]], []⟩, ⟨[50, 52, 54], some 55, [], []⟩, ⟨[50, 55], some 56, [], []⟩, ⟨[56], some 6, [], []⟩] (fun k14 => ?_) ?_
     ·skip
      refine .fieldAddrP (.no rfl) rfl t25 rfl rfl t2 rfl rfl rfl rfl <| .load (.no rfl) rfl t2 rfl rfl (.ptr _ _ _ _ _ rfl) rfl rfl rfl rfl <| .fieldAddrP (.no rfl) rfl t25 rfl rfl t2 rfl rfl rfl rfl <| .load (.no rfl) rfl t2 rfl rfl (.ptr _ _ _ _ _ rfl) rfl rfl rfl rfl <| .bin (.no rfl) rfl rfl rfl rfl rfl rfl <| .moveB (.no rfl) rfl rfl rfl rfl fun b15 g9_5 => ?_
      cases b15
      ·skip
       refine .fieldAddrP (.on rfl rfl rfl rfl rfl) rfl t25 rfl rfl t2 rfl rfl rfl rfl <| .load (.on rfl rfl rfl rfl rfl) rfl t2 rfl rfl (.ptr _ _ _ _ _ rfl) rfl rfl rfl rfl <| .fieldAddrP (.on rfl rfl rfl rfl rfl) rfl t25 rfl rfl t2 rfl rfl rfl rfl <| .load (.on rfl rfl rfl rfl rfl) rfl t2 rfl rfl (.ptr _ _ _ _ _ rfl) rfl rfl rfl rfl <| .bin (.on rfl rfl rfl rfl rfl) rfl rfl rfl rfl rfl rfl <| .pick (.no rfl) rfl rfl rfl rfl rfl <| .moveB (.no rfl) rfl rfl rfl rfl fun b16 g9_12 => ?_
       cases b16
       ·skip
        refine .fieldAddrP (.on rfl rfl rfl rfl rfl) rfl t25 rfl rfl t2 rfl rfl rfl rfl <| .load (.on rfl rfl rfl rfl rfl) rfl t2 rfl rfl (.ptr _ _ _ _ _ rfl) rfl rfl rfl rfl <| .fieldAddrP (.on rfl rfl rfl rfl rfl) rfl t25 rfl rfl t2 rfl rfl rfl rfl <| .load (.on rfl rfl rfl rfl rfl) rfl t2 rfl rfl (.ptr _ _ _ _ _ rfl) rfl rfl rfl rfl <| .bin (.on rfl rfl rfl rfl rfl) rfl rfl rfl rfl rfl rfl <| .pick (.no rfl) rfl rfl rfl rfl rfl <| .assign (.no rfl) rfl rfl rfl rfl ?_
        exact .fin () (.of (.cons (svB (show (a.lo != b.lo) = (((a.lo != a.hi || b.lo != b.hi) || a.lo != b.lo)) by first | (simp only [g9_5, g9_12, Bool.true_or, Bool.false_or, Bool.true_and, Bool.false_and, Bool.not_true, Bool.not_false]; done) | (simp [g9_5, g9_12]; done) | (exfalso; simp_all; done))) .nil) .nil)
       ·skip
        refine .off rfl rfl rfl rfl rfl rfl rfl <| .off rfl rfl rfl rfl rfl rfl rfl <| .off rfl rfl rfl rfl rfl rfl rfl <| .off rfl rfl rfl rfl rfl rfl rfl <| .off rfl rfl rfl rfl rfl rfl rfl <| .pick (.no rfl) rfl rfl rfl rfl rfl <| .assign (.no rfl) rfl rfl rfl rfl ?_
        exact .fin () (.of (.cons (svB (show (true) = (((a.lo != a.hi || b.lo != b.hi) || a.lo != b.lo)) by first | (simp only [g9_5, g9_12, Bool.true_or, Bool.false_or, Bool.true_and, Bool.false_and, Bool.not_true, Bool.not_false]; done) | (simp [g9_5, g9_12]; done) | (exfalso; simp_all; done))) .nil) .nil)
      ·skip
       refine .off rfl rfl rfl rfl rfl rfl rfl <| .off rfl rfl rfl rfl rfl rfl rfl <| .off rfl rfl rfl rfl rfl rfl rfl <| .off rfl rfl rfl rfl rfl rfl rfl <| .off rfl rfl rfl rfl rfl rfl rfl <| .pick (.no rfl) rfl rfl rfl rfl rfl <| .move (.no rfl) rfl rfl rfl rfl <| .off rfl rfl rfl rfl rfl rfl rfl <| .off rfl rfl rfl rfl rfl rfl rfl ?_
       refine .off rfl rfl rfl rfl rfl rfl rfl <| .off rfl rfl rfl rfl rfl rfl rfl <| .off rfl rfl rfl rfl rfl rfl rfl <| .pick (.no rfl) rfl rfl rfl rfl rfl <| .assign (.no rfl) rfl rfl rfl rfl ?_
       exact .fin () (.of (.cons (svB (show (true) = (((a.lo != a.hi || b.lo != b.hi) || a.lo != b.lo)) by first | (simp only [g9_5, Bool.true_or, Bool.false_or, Bool.true_and, Bool.false_and, Bool.not_true, Bool.not_false]; done) | (simp [g9_5]; done) | (exfalso; simp_all; done))) .nil) .nil)
     intro _
     refine .ret ?_
     exact fin0 (.inr rfl) (.one (svB (show (((a.lo != a.hi || b.lo != b.hi) || a.lo != b.lo)) = (mayB op a b) by (first | (unfold mayB; first | (rw [if_pos c0]; done) | (rw [if_neg c0, if_pos c1]; done) | (rw [if_neg c0, if_neg c1, if_pos c2]; done)) | (unfold mayB; rw [if_neg c0, if_neg c1, if_neg c2, if_pos c3]; rw [Bool.eq_iff_iff]; simp; done) | (unfold mayB; rw [if_neg c0, if_neg c1, if_neg c2, if_pos c3]; rw [Bool.eq_iff_iff]; simp; omega) | (rw [turn_may (by omega)])))) .nil) (.dd .nil) rfl
    ·have c3 := (by simpa using c3 : ¬ (op = 16))
     refine .skip <| .seq ?_
     refine .regD (X := Unit) (by kernel_rfl) (fun ζ => .of [(6, .one (.d (.v (.bool (mayB (turnN op) b a)))))] []) [⟨[0], some 57, [], []⟩, ⟨[57], some 58, [], []⟩, ⟨[5], some 59, [[5]], []⟩, ⟨[4], some 60, [[4]], []⟩, ⟨[58, 59, 60], some 61, [], []⟩, ⟨[61], some 6, [], []⟩] (by kernel_rfl) (fun k18 => ?_) ?_
     ·skip
      refine .move (.no rfl) rfl rfl rfl rfl <| .call (.no rfl) rfl [] [] (c_turned op) rfl rfl rfl rfl rfl (.dd .nil) rfl rfl (fun h => absurd rfl h) (.own [58, 0] .nil) (.nil) rfl rfl rfl (by simp) rfl rfl rfl <| .load (.no rfl) rfl t25 rfl rfl (.ptr _ _ _ _ _ rfl) rfl rfl rfl rfl <| .load (.no rfl) rfl t25 rfl rfl (.ptr _ _ _ _ _ rfl) rfl rfl rfl rfl <| .call (.no rfl) rfl [] [] (ih (turnN op) b a (by (have h9 := turn_in (op := op) (by omega); omega)) (by (have h9 := turn_in (op := op) (by omega); omega))) rfl rfl rfl rfl rfl (.dd (.dd (.dd (.dd (.dd .nil))))) rfl rfl (fun h => absurd rfl h) (.own [61, 0] .nil) (.nil) rfl rfl rfl (by simp) rfl rfl rfl <| .assign (.no rfl) rfl rfl rfl rfl ?_
      exact .fin () (.of (.r rfl) .nil)
     intro _
     refine .ret ?_
     exact fin0 (.inr rfl) (.one (svB (show (mayB (turnN op) b a) = (mayB op a b) by (first | (unfold mayB; first | (rw [if_pos c0]; done) | (rw [if_neg c0, if_pos c1]; done) | (rw [if_neg c0, if_neg c1, if_pos c2]; done)) | (unfold mayB; rw [if_neg c0, if_neg c1, if_neg c2, if_pos c3]; rw [Bool.eq_iff_iff]; simp; done) | (unfold mayB; rw [if_neg c0, if_neg c1, if_neg c2, if_pos c3]; rw [Bool.eq_iff_iff]; simp; omega) | (rw [turn_may (by omega)])))) .nil) (.dd .nil) rfl
theorem c_mayHold (op : Int) (a : Iv) (b : Iv) (ho : 13 ≤ op ∧ op ≤ 18) : Trip Tryd.prog 33 [(false, 1), (true, 2), (true, 2)] ([.v (.int .i64 (op))] ++ Iv.c a ++ Iv.c b) [(false, 1)] [.v (.bool (mayB op a b))] [] := c_mayHoldR ((op - 16).toNat + 1) op a b ho (Nat.lt_succ_self _)
theorem c_IvCompare (op : Int) (a : Iv) (b : Iv) : Trip Tryd.prog 9 [(false, 1), (true, 2), (true, 2)] ([.v (.int .i64 (op))] ++ Iv.c a ++ Iv.c b) [(true, 2)] [.v (.int .i64 ((cmV op a b).lo)), .v (.int .i64 ((cmV op a b).hi))] [] := by
 refine Trip.of Tryd.func9 (by decide) (c := _) rfl rfl (Nat.le_of_ble_eq_true rfl) rfl (AftOk.nil _) <| .seq <| .rs fun k1 => .g (fun _ τ => ⟨_, .box (.no rfl) rfl rfl rfl rfl rfl τ⟩) <| .g (fun _ τ => ⟨_, .box (.no rfl) rfl rfl rfl rfl rfl τ⟩) <| .g (fun _ τ => ⟨_, .alloc (.no rfl) rfl z25 rfl rfl rfl τ⟩) <| .z <| .seq <| .seq ?_
 refine .reg (X := Unit) (fun ζ => .of [(0, .one (.d (.v (.int .i64 (op))))), (4, .one (.ptr [4] (k1) 0)), (5, .one (.ptr [5] (k1 + 1) 0)), (6, .one (.ptr [6] (k1 + 1 + 1) 0)), (15, .one (.d (.v (.bool ((!(inR op 13 18) || !(Iv.ok a && Iv.ok b)))))))] [([4], (k1, k1, .box [.d (.v (.int .i64 (a.lo))), .d (.v (.int .i64 (a.hi)))])), ([5], (k1 + 1, k1 + 1, .box [.d (.v (.int .i64 (b.lo))), .d (.v (.int .i64 (b.hi)))])), ([6], (k1 + 1 + 1, k1 + 1 + 1, .box [.d (.v (.int .i64 (0))), .d (.v (.int .i64 (0)))]))]) [⟨[0], some 7, [], []⟩, ⟨[7], some 8, [], []⟩, ⟨[8], some 9, [], []⟩, ⟨[9], some 10, [], []⟩, ⟨[10, 4], some 11, [[4]], []⟩, ⟨[10, 5], some 12, [[5]], []⟩, ⟨[10, 11, 12], some 13, [], []⟩, ⟨[10, 13], some 14, [], []⟩, ⟨[10, 14], some 15, [], []⟩] (fun k2 => ?_) ?_
 ·skip
  refine .move (.no rfl) rfl rfl rfl rfl <| .call (.no rfl) rfl [] [] (c_within op 13 18) rfl rfl rfl rfl rfl (.dd (.dd (.dd .nil))) rfl rfl (fun h => absurd rfl h) (.own [8, 0] .nil) (.nil) rfl rfl rfl (by simp) rfl rfl rfl <| .un (.no rfl) rfl rfl rfl rfl rfl <| .moveB (.no rfl) rfl rfl rfl rfl fun b3 g1_3 => ?_
  cases b3
  ·skip
   refine .load (.on rfl rfl rfl rfl rfl) rfl t25 rfl rfl (.ptr _ _ _ _ _ rfl) rfl rfl rfl rfl <| .load (.on rfl rfl rfl rfl rfl) rfl t25 rfl rfl (.ptr _ _ _ _ _ rfl) rfl rfl rfl rfl <| .call (.on rfl rfl rfl rfl rfl) rfl [] [] (c_areIvs a b) rfl rfl rfl rfl rfl (.dd (.dd (.dd (.dd .nil)))) rfl rfl (fun h => absurd rfl h) (.own [13, 0] .nil) (.nil) rfl rfl rfl (by simp) rfl rfl rfl <| .un (.on rfl rfl rfl rfl rfl) rfl rfl rfl rfl rfl <| .pick (.no rfl) rfl rfl rfl rfl rfl ?_
   exact .fin () (.of (.cons rfl (.cons rfl (.cons rfl (.cons rfl (.cons (svB (show (!(Iv.ok a && Iv.ok b)) = ((!(inR op 13 18) || !(Iv.ok a && Iv.ok b))) by first | (simp only [g1_3, Bool.true_or, Bool.false_or, Bool.true_and, Bool.false_and, Bool.not_true, Bool.not_false]; done) | (simp [g1_3]; done) | (exfalso; simp_all; done))) .nil))))) (.r rfl))
  ·skip
   refine .off rfl rfl rfl rfl rfl rfl rfl <| .off rfl rfl rfl rfl rfl rfl rfl <| .off rfl rfl rfl rfl rfl rfl rfl <| .off rfl rfl rfl rfl rfl rfl rfl <| .pick (.no rfl) rfl rfl rfl rfl rfl ?_
   exact .fin () (.of (.cons rfl (.cons rfl (.cons rfl (.cons rfl (.cons (svB (show (true) = ((!(inR op 13 18) || !(Iv.ok a && Iv.ok b))) by first | (simp only [g1_3, Bool.true_or, Bool.false_or, Bool.true_and, Bool.false_and, Bool.not_true, Bool.not_false]; done) | (simp [g1_3]; done) | (exfalso; simp_all; done))) .nil))))) (.r rfl))
 intro _
 refine .cond (t := (!(inR op 13 18) || !(Iv.ok a && Iv.ok b))) rfl (fun c0 => ?_) (fun c0 => ?_)
 ·have c0 := (oT (nT id) (nT (aF id id))) c0
  refine .seq <| .rs fun k4 => .g (fun _ τ => ⟨_, .build (.no rfl) rfl z25 rfl p25 rfl rfl rfl rfl τ⟩) <| .g (fun _ τ => ⟨_, .store (.no rfl) rfl t25 rfl rfl rfl rfl rfl rfl rfl rfl rfl τ⟩) <| .z <| .ret ?_
  have e5 : (0) = ((cmV op a b).lo) := by (first | (rw [cmV_no (cmB_no2 c0)]) | (rw [truthI_cm hcm]))
  have e6 : (0) = ((cmV op a b).hi) := by (first | (rw [cmV_no (cmB_no2 c0)]) | (rw [truthI_cm hcm]))
  have hc7 := eq2 (fun z1 z2 => some (k1 + 1 + 1, k4 + 1, O.box [.d (.v (.int .i64 (z1))), .d (.v (.int .i64 (z2)))])) e5 e6
  exact fin0 (.inr rfl) (.cell (cells := [.d (.v (.int .i64 ((cmV op a b).lo))), .d (.v (.int .i64 ((cmV op a b).hi)))]) rfl hc7 t25 rfl rfl .nil) (.dd (.dd .nil)) rfl
 ·have c0 := (oF (nF id) (nF (aT id id))) c0
  have hcm := cmB_yes ⟨⟨c0.1, c0.2.1⟩, c0.2.2⟩
  have ⟨hg1, hg2, hg3⟩ := cm_get hcm
  refine .skip <| .seq ?_
  refine .regD (X := Nat) (by kernel_rfl) (fun ζ => .of [(6, .one (.ptr [6] (k1 + 1 + 1) 0))] [([6], (k1 + 1 + 1, ζ, .box [.d (.v (.int .i64 ((truthI (mayB (oppN op) a b) (mayB op a b)).lo))), .d (.v (.int .i64 ((truthI (mayB (oppN op) a b) (mayB op a b)).hi)))]))]) [⟨[0], some 17, [], []⟩, ⟨[17], some 18, [], []⟩, ⟨[4], some 19, [[4]], []⟩, ⟨[5], some 20, [[5]], []⟩, ⟨[18, 19, 20], some 21, [], []⟩, ⟨[0], some 22, [], []⟩, ⟨[4], some 23, [[4]], []⟩, ⟨[5], some 24, [[5]], []⟩, ⟨[22, 23, 24], some 25, [], []⟩, ⟨[21, 25], some 26, [], []⟩, ⟨[6, 26], none, [[6]], [[6]]⟩] (by kernel_rfl) (fun k8 => ?_) ?_
  ·skip
   refine .move (.no rfl) rfl rfl rfl rfl <| .call (.no rfl) rfl [] [] (c_opposite op) rfl rfl rfl rfl rfl (.dd .nil) rfl rfl (fun h => absurd rfl h) (.own [18, 0] .nil) (.nil) rfl rfl rfl (by simp) rfl rfl rfl <| .load (.no rfl) rfl t25 rfl rfl (.ptr _ _ _ _ _ rfl) rfl rfl rfl rfl <| .load (.no rfl) rfl t25 rfl rfl (.ptr _ _ _ _ _ rfl) rfl rfl rfl rfl <| .call (.no rfl) rfl [] [] (c_mayHold (oppN op) a b (by first | omega | exact opp_in (by omega))) rfl rfl rfl rfl rfl (.dd (.dd (.dd (.dd (.dd .nil))))) rfl rfl (fun h => absurd rfl h) (.own [21, 0] .nil) (.nil) rfl rfl rfl (by simp) rfl rfl rfl <| .move (.no rfl) rfl rfl rfl rfl <| .load (.no rfl) rfl t25 rfl rfl (.ptr _ _ _ _ _ rfl) rfl rfl rfl rfl <| .load (.no rfl) rfl t25 rfl rfl (.ptr _ _ _ _ _ rfl) rfl rfl rfl rfl ?_
   refine .call (.no rfl) rfl [] [] (c_mayHold op a b (by first | omega | exact opp_in (by omega))) rfl rfl rfl rfl rfl (.dd (.dd (.dd (.dd (.dd .nil))))) rfl rfl (fun h => absurd rfl h) (.own [25, 0] .nil) (.nil) rfl rfl rfl (by simp) rfl rfl rfl <| .call (.no rfl) rfl [] [] (c_truthOf (mayB (oppN op) a b) (mayB op a b)) rfl rfl rfl rfl rfl (.dd (.dd .nil)) rfl rfl (fun h => absurd rfl h) (.own [26, 0] (.own [26, 1] .nil)) (.nil) rfl rfl rfl (by simp) rfl rfl rfl <| .store (.no rfl) rfl t25 rfl rfl rfl rfl rfl rfl rfl rfl rfl ?_
   exact .fin (k8 + 1 + 1 + 1 + 1 + 1 + 1 + 1 + 1 + 1 + 1) (.of (.r rfl) (.r rfl))
  intro g9
  refine .ret ?_
  have e10 : ((truthI (mayB (oppN op) a b) (mayB op a b)).lo) = ((cmV op a b).lo) := by (first | (rw [cmV_no (cmB_no2 c0)]) | (rw [truthI_cm hcm]))
  have e11 : ((truthI (mayB (oppN op) a b) (mayB op a b)).hi) = ((cmV op a b).hi) := by (first | (rw [cmV_no (cmB_no2 c0)]) | (rw [truthI_cm hcm]))
  have hc12 := eq2 (fun z1 z2 => some (k1 + 1 + 1, g9, O.box [.d (.v (.int .i64 (z1))), .d (.v (.int .i64 (z2)))])) e10 e11
  exact fin0 (.inr rfl) (.cell (cells := [.d (.v (.int .i64 ((cmV op a b).lo))), .d (.v (.int .i64 ((cmV op a b).hi)))]) rfl hc12 t25 rfl rfl .nil) (.dd (.dd .nil)) rfl
theorem c_l7Compares (op : Int) : Trip Tryd.prog 30 [(false, 1)] ([.v (.int .i64 (op))]) [(false, 1)] [.v (.bool (inR op 13 18))] [] := by
 refine Trip.of Tryd.func30 (by decide) (c := _) rfl rfl (Nat.le_of_ble_eq_true rfl) rfl (AftOk.nil _) <| .seq <| .rs fun k1 => .as rfl <| .z <| .seq <| .rs fun k2 => .mv rfl <| .c0 (c_l1In op 13 18) rfl (.dd (.dd (.dd .nil))) (.own [4, 0] .nil) rfl ?_
 refine .as rfl <| .z <| .ret ?_
 exact fin0 (.inr rfl) (.one rfl .nil) (.dd .nil) rfl
theorem c_l7Not (op : Int) (ho : 13 ≤ op ∧ op ≤ 18) : Trip Tryd.prog 37 [(false, 1)] ([.v (.int .i64 (op))]) [(false, 1)] [.v (.int .i64 (oppN op))] [] := by
 refine Trip.of Tryd.func37 (by decide) (c := _) rfl rfl (Nat.le_of_ble_eq_true rfl) rfl (AftOk.nil _) <| .seq <| .rs fun k1 => .as rfl <| .z <| .seq <| .rs fun k2 => .g (fun _ τ => ⟨_, .buildSlice (.no rfl) rfl (els := [[.v (.int .i64 (18))], [.v (.int .i64 (17))], [.v (.int .i64 (16))], [.v (.int .i64 (15))], [.v (.int .i64 (14))], [.v (.int .i64 (13))]]) t42 rfl z2 rfl rfl rfl rfl rfl rfl rfl rfl (by simp [i2]) (.cons _ _ _ _ _ _ (.d _) (.cons _ _ _ _ _ _ (.d _) (.cons _ _ _ _ _ _ (.d _) (.cons _ _ _ _ _ _ (.d _) (.cons _ _ _ _ _ _ (.d _) (.cons _ _ _ _ _ _ (.d _) .nil)))))) rfl rfl rfl τ⟩) <| .mv rfl ?_
 refine .g (fun _ τ => ⟨_, .binN (.no rfl) rfl (show IntKind.wrap .i64 (op - 13) = op - 13 by (exact wrap_le (by omega) (by omega))) rfl rfl rfl rfl rfl τ⟩) <| .g (fun _ τ => ⟨_, .indexAddr (.no rfl) rfl ((op - 13).toNat) t42 rfl t2 rfl rfl rfl (.ref _ _ _ _ _ rfl) rfl rfl (by omega) (map_get (c := i64c) (L := [18, 17, 16, 15, 14, 13]) (by show _ < 6; omega)) rfl rfl τ⟩) <| .ld t2 rfl (.eptr _ _ _ _ _ _ _ _ _ rfl (map_get (c := i64c) (L := [18, 17, 16, 15, 14, 13]) (by show _ < 6; omega))) rfl <| .as rfl <| .z <| .ret ?_
 exact fin0 (.inr rfl) (.one (svI (show (([18, 17, 16, 15, 14, 13]).getD ((op - 13).toNat) default) = (oppN op) by exact opp_list ho)) .nil) (.dd .nil) rfl
theorem c_l7All (op : Int) (a : Iv) (b : Iv) (ho : 13 ≤ op ∧ op ≤ 18) : Trip Tryd.prog 36 [(false, 1), (true, 2), (true, 2)] ([.v (.int .i64 (op))] ++ Iv.c a ++ Iv.c b) [(false, 1)] [.v (.bool (allB op a b))] [] := by
 refine Trip.of Tryd.func36 (by decide) (c := _) rfl rfl (Nat.le_of_ble_eq_true rfl) rfl (AftOk.nil _) <| .seq <| .rs fun k1 => .g (fun _ τ => ⟨_, .box (.no rfl) rfl rfl rfl rfl rfl τ⟩) <| .g (fun _ τ => ⟨_, .box (.no rfl) rfl rfl rfl rfl rfl τ⟩) <| .as rfl <| .z <| .seq <| .seq ?_
 refine .rs fun k2 => .mv rfl <| .z <| .block <| .seq <| .rs fun k3 => .bi rfl <| .as rfl <| .z ?_
 refine .cond (t := op == 13) rfl (fun c0 => ?_) (fun c0 => ?_)
 ·have c0 := (by simpa using c0 : op = 13)
  refine .seq <| .rs fun k4 => .fp t25 t2 rfl <| .ld t2 rfl (.ptr _ _ _ _ _ rfl) rfl <| .fp t25 t2 rfl <| .ld t2 rfl (.ptr _ _ _ _ _ rfl) rfl <| .bi rfl <| .as rfl <| .z ?_
  refine .ret ?_
  exact fin0 (.inr rfl) (.one (svB (show (decide (a.hi < b.lo)) = (allB op a b) by (rw [all_is ho]; first | (rw [if_pos c0]; done) | (rw [if_neg c0, if_pos c1]; done) | (rw [if_neg c0, if_neg c1, if_pos c2]; rw [Bool.eq_iff_iff]; simp; omega) | (rw [if_neg c0, if_neg c1, if_neg c2, if_pos c3]; done) | (rw [if_neg c0, if_neg c1, if_neg c2, if_neg c3, if_pos c4]; done) | (rw [if_neg c0, if_neg c1, if_neg c2, if_neg c3, if_neg c4]; done)))) .nil) (.dd .nil) rfl
 ·have c0 := (by simpa using c0 : ¬ (op = 13))
  refine .seq <| .rs fun k6 => .bi rfl <| .as rfl <| .z ?_
  refine .cond (t := op == 14) rfl (fun c1 => ?_) (fun c1 => ?_)
  ·have c1 := (by simpa using c1 : op = 14)
   refine .seq <| .rs fun k7 => .fp t25 t2 rfl <| .ld t2 rfl (.ptr _ _ _ _ _ rfl) rfl <| .fp t25 t2 rfl <| .ld t2 rfl (.ptr _ _ _ _ _ rfl) rfl <| .bi rfl <| .as rfl <| .z ?_
   refine .ret ?_
   exact fin0 (.inr rfl) (.one (svB (show (decide (a.hi ≤ b.lo)) = (allB op a b) by (rw [all_is ho]; first | (rw [if_pos c0]; done) | (rw [if_neg c0, if_pos c1]; done) | (rw [if_neg c0, if_neg c1, if_pos c2]; rw [Bool.eq_iff_iff]; simp; omega) | (rw [if_neg c0, if_neg c1, if_neg c2, if_pos c3]; done) | (rw [if_neg c0, if_neg c1, if_neg c2, if_neg c3, if_pos c4]; done) | (rw [if_neg c0, if_neg c1, if_neg c2, if_neg c3, if_neg c4]; done)))) .nil) (.dd .nil) rfl
  ·have c1 := (by simpa using c1 : ¬ (op = 14))
   refine .seq <| .rs fun k9 => .bi rfl <| .as rfl <| .z ?_
   refine .cond (t := op == 15) rfl (fun c2 => ?_) (fun c2 => ?_)
   ·have c2 := (by simpa using c2 : op = 15)
    refine .seq ?_
    refine .reg (X := Unit) (fun ζ => .of [(6, .one (.d (.v (.bool ((a.lo == a.hi && (a.lo == b.lo && a.hi == b.hi)))))))] []) [⟨[4], some 24, [], []⟩, ⟨[24], some 25, [[4]], []⟩, ⟨[4], some 26, [], []⟩, ⟨[26], some 27, [[4]], []⟩, ⟨[25, 27], some 28, [], []⟩, ⟨[28], some 29, [], []⟩, ⟨[29, 4], some 30, [[4]], []⟩, ⟨[29, 5], some 31, [[5]], []⟩, ⟨[29, 30, 31], some 32, [], []⟩, ⟨[29, 32], some 33, [], []⟩, ⟨[33], some 6, [], []⟩] (fun k10 => ?_) ?_
    ·skip
     refine .fieldAddrP (.no rfl) rfl t25 rfl rfl t2 rfl rfl rfl rfl <| .load (.no rfl) rfl t2 rfl rfl (.ptr _ _ _ _ _ rfl) rfl rfl rfl rfl <| .fieldAddrP (.no rfl) rfl t25 rfl rfl t2 rfl rfl rfl rfl <| .load (.no rfl) rfl t2 rfl rfl (.ptr _ _ _ _ _ rfl) rfl rfl rfl rfl <| .bin (.no rfl) rfl rfl rfl rfl rfl rfl <| .moveB (.no rfl) rfl rfl rfl rfl fun b11 g7_5 => ?_
     cases b11
     ·skip
      refine .off rfl rfl rfl rfl rfl rfl rfl <| .off rfl rfl rfl rfl rfl rfl rfl <| .off rfl rfl rfl rfl rfl rfl rfl <| .pick (.no rfl) rfl rfl rfl rfl rfl <| .assign (.no rfl) rfl rfl rfl rfl ?_
      exact .fin () (.of (.cons (svB (show (false) = ((a.lo == a.hi && (a.lo == b.lo && a.hi == b.hi))) by first | (simp only [g7_5, Bool.true_or, Bool.false_or, Bool.true_and, Bool.false_and, Bool.not_true, Bool.not_false]; done) | (simp [g7_5]; done) | (exfalso; simp_all; done))) .nil) .nil)
     ·skip
      refine .load (.on rfl rfl rfl rfl rfl) rfl t25 rfl rfl (.ptr _ _ _ _ _ rfl) rfl rfl rfl rfl <| .load (.on rfl rfl rfl rfl rfl) rfl t25 rfl rfl (.ptr _ _ _ _ _ rfl) rfl rfl rfl rfl <| .eq2 (.on rfl rfl rfl rfl rfl) rfl e25 t2 rfl rfl rfl rfl rfl <| .pick (.no rfl) rfl rfl rfl rfl rfl <| .assign (.no rfl) rfl rfl rfl rfl ?_
      exact .fin () (.of (.cons (svB (show ((a.lo == b.lo && a.hi == b.hi)) = ((a.lo == a.hi && (a.lo == b.lo && a.hi == b.hi))) by first | (simp only [g7_5, Bool.true_or, Bool.false_or, Bool.true_and, Bool.false_and, Bool.not_true, Bool.not_false]; done) | (simp [g7_5]; done) | (exfalso; simp_all; done))) .nil) .nil)
    intro _
    refine .ret ?_
    exact fin0 (.inr rfl) (.one (svB (show ((a.lo == a.hi && (a.lo == b.lo && a.hi == b.hi))) = (allB op a b) by (rw [all_is ho]; first | (rw [if_pos c0]; done) | (rw [if_neg c0, if_pos c1]; done) | (rw [if_neg c0, if_neg c1, if_pos c2]; rw [Bool.eq_iff_iff]; simp; omega) | (rw [if_neg c0, if_neg c1, if_neg c2, if_pos c3]; done) | (rw [if_neg c0, if_neg c1, if_neg c2, if_neg c3, if_pos c4]; done) | (rw [if_neg c0, if_neg c1, if_neg c2, if_neg c3, if_neg c4]; done)))) .nil) (.dd .nil) rfl
   ·have c2 := (by simpa using c2 : ¬ (op = 15))
    refine .seq <| .rs fun k13 => .bi rfl <| .as rfl <| .z ?_
    refine .cond (t := op == 16) rfl (fun c3 => ?_) (fun c3 => ?_)
    ·have c3 := (by simpa using c3 : op = 16)
     refine .seq ?_
     refine .reg (X := Unit) (fun ζ => .of [(6, .one (.d (.v (.bool ((decide (a.hi < b.lo) || decide (b.hi < a.lo)))))))] []) [⟨[4], some 36, [], []⟩, ⟨[36], some 37, [[4]], []⟩, ⟨[5], some 38, [], []⟩, ⟨[38], some 39, [[5]], []⟩, ⟨[37, 39], some 40, [], []⟩, ⟨[40], some 41, [], []⟩, ⟨[41, 5], some 42, [], []⟩, ⟨[41, 42], some 43, [[5]], []⟩, ⟨[41, 4], some 44, [], []⟩, ⟨[41, 44], some 45, [[4]], []⟩, ⟨[41, 43, 45], some 46, [], []⟩, ⟨[41, 46], some 47, [], []⟩, ⟨[47], some 6, [], []⟩] (fun k14 => ?_) ?_
     ·skip
      refine .fieldAddrP (.no rfl) rfl t25 rfl rfl t2 rfl rfl rfl rfl <| .load (.no rfl) rfl t2 rfl rfl (.ptr _ _ _ _ _ rfl) rfl rfl rfl rfl <| .fieldAddrP (.no rfl) rfl t25 rfl rfl t2 rfl rfl rfl rfl <| .load (.no rfl) rfl t2 rfl rfl (.ptr _ _ _ _ _ rfl) rfl rfl rfl rfl <| .bin (.no rfl) rfl rfl rfl rfl rfl rfl <| .moveB (.no rfl) rfl rfl rfl rfl fun b15 g9_5 => ?_
      cases b15
      ·skip
       refine .fieldAddrP (.on rfl rfl rfl rfl rfl) rfl t25 rfl rfl t2 rfl rfl rfl rfl <| .load (.on rfl rfl rfl rfl rfl) rfl t2 rfl rfl (.ptr _ _ _ _ _ rfl) rfl rfl rfl rfl <| .fieldAddrP (.on rfl rfl rfl rfl rfl) rfl t25 rfl rfl t2 rfl rfl rfl rfl <| .load (.on rfl rfl rfl rfl rfl) rfl t2 rfl rfl (.ptr _ _ _ _ _ rfl) rfl rfl rfl rfl <| .bin (.on rfl rfl rfl rfl rfl) rfl rfl rfl rfl rfl rfl <| .pick (.no rfl) rfl rfl rfl rfl rfl <| .assign (.no rfl) rfl rfl rfl rfl ?_
       exact .fin () (.of (.cons (svB (show (decide (b.hi < a.lo)) = ((decide (a.hi < b.lo) || decide (b.hi < a.lo))) by first | (simp only [g9_5, Bool.true_or, Bool.false_or, Bool.true_and, Bool.false_and, Bool.not_true, Bool.not_false]; done) | (simp [g9_5]; done) | (exfalso; simp_all; done))) .nil) .nil)
      ·skip
       refine .off rfl rfl rfl rfl rfl rfl rfl <| .off rfl rfl rfl rfl rfl rfl rfl <| .off rfl rfl rfl rfl rfl rfl rfl <| .off rfl rfl rfl rfl rfl rfl rfl <| .off rfl rfl rfl rfl rfl rfl rfl <| .pick (.no rfl) rfl rfl rfl rfl rfl <| .assign (.no rfl) rfl rfl rfl rfl ?_
       exact .fin () (.of (.cons (svB (show (true) = ((decide (a.hi < b.lo) || decide (b.hi < a.lo))) by first | (simp only [g9_5, Bool.true_or, Bool.false_or, Bool.true_and, Bool.false_and, Bool.not_true, Bool.not_false]; done) | (simp [g9_5]; done) | (exfalso; simp_all; done))) .nil) .nil)
     intro _
     refine .ret ?_
     exact fin0 (.inr rfl) (.one (svB (show ((decide (a.hi < b.lo) || decide (b.hi < a.lo))) = (allB op a b) by (rw [all_is ho]; first | (rw [if_pos c0]; done) | (rw [if_neg c0, if_pos c1]; done) | (rw [if_neg c0, if_neg c1, if_pos c2]; rw [Bool.eq_iff_iff]; simp; omega) | (rw [if_neg c0, if_neg c1, if_neg c2, if_pos c3]; done) | (rw [if_neg c0, if_neg c1, if_neg c2, if_neg c3, if_pos c4]; done) | (rw [if_neg c0, if_neg c1, if_neg c2, if_neg c3, if_neg c4]; done)))) .nil) (.dd .nil) rfl
    ·have c3 := (by simpa using c3 : ¬ (op = 16))
     refine .seq <| .rs fun k17 => .bi rfl <| .as rfl <| .z ?_
     refine .cond (t := op == 17) rfl (fun c4 => ?_) (fun c4 => ?_)
     ·have c4 := (by simpa using c4 : op = 17)
      refine .seq <| .rs fun k18 => .fp t25 t2 rfl <| .ld t2 rfl (.ptr _ _ _ _ _ rfl) rfl <| .fp t25 t2 rfl <| .ld t2 rfl (.ptr _ _ _ _ _ rfl) rfl <| .bi rfl <| .as rfl <| .z ?_
      refine .ret ?_
      exact fin0 (.inr rfl) (.one (svB (show (decide (a.lo > b.hi)) = (allB op a b) by (rw [all_is ho]; first | (rw [if_pos c0]; done) | (rw [if_neg c0, if_pos c1]; done) | (rw [if_neg c0, if_neg c1, if_pos c2]; rw [Bool.eq_iff_iff]; simp; omega) | (rw [if_neg c0, if_neg c1, if_neg c2, if_pos c3]; done) | (rw [if_neg c0, if_neg c1, if_neg c2, if_neg c3, if_pos c4]; done) | (rw [if_neg c0, if_neg c1, if_neg c2, if_neg c3, if_neg c4]; done)))) .nil) (.dd .nil) rfl
     ·have c4 := (by simpa using c4 : ¬ (op = 17))
      refine .skip <| .seq <| .rs fun k20 => .fp t25 t2 rfl <| .ld t2 rfl (.ptr _ _ _ _ _ rfl) rfl <| .fp t25 t2 rfl <| .ld t2 rfl (.ptr _ _ _ _ _ rfl) rfl <| .bi rfl <| .as rfl ?_
      refine .z <| .ret ?_
      exact fin0 (.inr rfl) (.one (svB (show (decide (a.lo ≥ b.hi)) = (allB op a b) by (rw [all_is ho]; first | (rw [if_pos c0]; done) | (rw [if_neg c0, if_pos c1]; done) | (rw [if_neg c0, if_neg c1, if_pos c2]; rw [Bool.eq_iff_iff]; simp; omega) | (rw [if_neg c0, if_neg c1, if_neg c2, if_pos c3]; done) | (rw [if_neg c0, if_neg c1, if_neg c2, if_neg c3, if_pos c4]; done) | (rw [if_neg c0, if_neg c1, if_neg c2, if_neg c3, if_neg c4]; done)))) .nil) (.dd .nil) rfl
theorem c_sIvCompare (op : Int) (a : Iv) (b : Iv) : Trip Tryd.prog 10 [(false, 1), (true, 2), (true, 2)] ([.v (.int .i64 (op))] ++ Iv.c a ++ Iv.c b) [(true, 2)] [.v (.int .i64 ((cmV op a b).lo)), .v (.int .i64 ((cmV op a b).hi))] [] := by
 refine Trip.of Tryd.func10 (by decide) (c := _) rfl rfl (Nat.le_of_ble_eq_true rfl) rfl (AftOk.nil _) <| .seq <| .rs fun k1 => .g (fun _ τ => ⟨_, .box (.no rfl) rfl rfl rfl rfl rfl τ⟩) <| .g (fun _ τ => ⟨_, .box (.no rfl) rfl rfl rfl rfl rfl τ⟩) <| .g (fun _ τ => ⟨_, .alloc (.no rfl) rfl z25 rfl rfl rfl τ⟩) <| .z <| .seq <| .seq ?_
 refine .reg (X := Unit) (fun ζ => .of [(0, .one (.d (.v (.int .i64 (op))))), (4, .one (.ptr [4] (k1) 0)), (5, .one (.ptr [5] (k1 + 1) 0)), (6, .one (.ptr [6] (k1 + 1 + 1) 0)), (19, .one (.d (.v (.bool (((!(inR op 13 18) || !(Iv.ok a)) || !(Iv.ok b)))))))] [([4], (k1, k1, .box [.d (.v (.int .i64 (a.lo))), .d (.v (.int .i64 (a.hi)))])), ([5], (k1 + 1, k1 + 1, .box [.d (.v (.int .i64 (b.lo))), .d (.v (.int .i64 (b.hi)))])), ([6], (k1 + 1 + 1, k1 + 1 + 1, .box [.d (.v (.int .i64 (0))), .d (.v (.int .i64 (0)))]))]) [⟨[0], some 7, [], []⟩, ⟨[7], some 8, [], []⟩, ⟨[8], some 9, [], []⟩, ⟨[9], some 10, [], []⟩, ⟨[10, 4], some 11, [[4]], []⟩, ⟨[10, 11], some 12, [], []⟩, ⟨[10, 12], some 13, [], []⟩, ⟨[10, 13], some 14, [], []⟩, ⟨[14], some 15, [], []⟩, ⟨[15, 5], some 16, [[5]], []⟩, ⟨[15, 16], some 17, [], []⟩, ⟨[15, 17], some 18, [], []⟩, ⟨[15, 18], some 19, [], []⟩] (fun k2 => ?_) ?_
 ·skip
  refine .move (.no rfl) rfl rfl rfl rfl <| .call (.no rfl) rfl [] [] (c_l7Compares op) rfl rfl rfl rfl rfl (.dd .nil) rfl rfl (fun h => absurd rfl h) (.own [8, 0] .nil) (.nil) rfl rfl rfl (by simp) rfl rfl rfl <| .un (.no rfl) rfl rfl rfl rfl rfl <| .moveB (.no rfl) rfl rfl rfl rfl fun b3 g1_3 => ?_
  cases b3
  ·skip
   refine .load (.on rfl rfl rfl rfl rfl) rfl t25 rfl rfl (.ptr _ _ _ _ _ rfl) rfl rfl rfl rfl <| .call (.on rfl rfl rfl rfl rfl) rfl [] [] (c_sIvOk a) rfl rfl rfl rfl rfl (.dd (.dd .nil)) rfl rfl (fun h => absurd rfl h) (.own [12, 0] .nil) (.nil) rfl rfl rfl (by simp) rfl rfl rfl <| .un (.on rfl rfl rfl rfl rfl) rfl rfl rfl rfl rfl <| .pick (.no rfl) rfl rfl rfl rfl rfl <| .moveB (.no rfl) rfl rfl rfl rfl fun b4 g1_8 => ?_
   cases b4
   ·skip
    refine .load (.on rfl rfl rfl rfl rfl) rfl t25 rfl rfl (.ptr _ _ _ _ _ rfl) rfl rfl rfl rfl <| .call (.on rfl rfl rfl rfl rfl) rfl [] [] (c_sIvOk b) rfl rfl rfl rfl rfl (.dd (.dd .nil)) rfl rfl (fun h => absurd rfl h) (.own [17, 0] .nil) (.nil) rfl rfl rfl (by simp) rfl rfl rfl <| .un (.on rfl rfl rfl rfl rfl) rfl rfl rfl rfl rfl <| .pick (.no rfl) rfl rfl rfl rfl rfl ?_
    exact .fin () (.of (.cons rfl (.cons rfl (.cons rfl (.cons rfl (.cons (svB (show (!(Iv.ok b)) = (((!(inR op 13 18) || !(Iv.ok a)) || !(Iv.ok b))) by first | (simp only [g1_3, g1_8, Bool.true_or, Bool.false_or, Bool.true_and, Bool.false_and, Bool.not_true, Bool.not_false]; done) | (simp [g1_3, g1_8]; done) | (exfalso; simp_all; done))) .nil))))) (.r rfl))
   ·skip
    refine .off rfl rfl rfl rfl rfl rfl rfl <| .off rfl rfl rfl rfl rfl rfl rfl <| .off rfl rfl rfl rfl rfl rfl rfl <| .pick (.no rfl) rfl rfl rfl rfl rfl ?_
    exact .fin () (.of (.cons rfl (.cons rfl (.cons rfl (.cons rfl (.cons (svB (show (true) = (((!(inR op 13 18) || !(Iv.ok a)) || !(Iv.ok b))) by first | (simp only [g1_3, g1_8, Bool.true_or, Bool.false_or, Bool.true_and, Bool.false_and, Bool.not_true, Bool.not_false]; done) | (simp [g1_3, g1_8]; done) | (exfalso; simp_all; done))) .nil))))) (.r rfl))
  ·skip
   refine .off rfl rfl rfl rfl rfl rfl rfl <| .off rfl rfl rfl rfl rfl rfl rfl <| .off rfl rfl rfl rfl rfl rfl rfl <| .pick (.no rfl) rfl rfl rfl rfl rfl <| .move (.no rfl) rfl rfl rfl rfl <| .off rfl rfl rfl rfl rfl rfl rfl <| .off rfl rfl rfl rfl rfl rfl rfl <| .off rfl rfl rfl rfl rfl rfl rfl <| .pick (.no rfl) rfl rfl rfl rfl rfl ?_
   exact .fin () (.of (.cons rfl (.cons rfl (.cons rfl (.cons rfl (.cons (svB (show (true) = (((!(inR op 13 18) || !(Iv.ok a)) || !(Iv.ok b))) by first | (simp only [g1_3, Bool.true_or, Bool.false_or, Bool.true_and, Bool.false_and, Bool.not_true, Bool.not_false]; done) | (simp [g1_3]; done) | (exfalso; simp_all; done))) .nil))))) (.r rfl))
 intro _
 refine .cond (t := ((!(inR op 13 18) || !(Iv.ok a)) || !(Iv.ok b))) rfl (fun c0 => ?_) (fun c0 => ?_)
 ·have c0 := (oT (oT (nT id) (nT id)) (nT id)) c0
  refine .seq <| .rs fun k5 => .g (fun _ τ => ⟨_, .build (.no rfl) rfl z25 rfl p25 rfl rfl rfl rfl τ⟩) <| .g (fun _ τ => ⟨_, .store (.no rfl) rfl t25 rfl rfl rfl rfl rfl rfl rfl rfl rfl τ⟩) <| .z <| .ret ?_
  have e6 : (0) = ((cmV op a b).lo) := by (first | (rw [cmV_no (cmB_no c0)]) | exact (all_cm hcm).1 | exact (all_cm hcm).2)
  have e7 : (0) = ((cmV op a b).hi) := by (first | (rw [cmV_no (cmB_no c0)]) | exact (all_cm hcm).1 | exact (all_cm hcm).2)
  have hc8 := eq2 (fun z1 z2 => some (k1 + 1 + 1, k5 + 1, O.box [.d (.v (.int .i64 (z1))), .d (.v (.int .i64 (z2)))])) e6 e7
  exact fin0 (.inr rfl) (.cell (cells := [.d (.v (.int .i64 ((cmV op a b).lo))), .d (.v (.int .i64 ((cmV op a b).hi)))]) rfl hc8 t25 rfl rfl .nil) (.dd (.dd .nil)) rfl
 ·have c0 := (oF (oF (nF id) (nF id)) (nF id)) c0
  have hcm := cmB_yes c0
  have ⟨hg1, hg2, hg3⟩ := cm_get hcm
  refine .skip <| .seq ?_
  refine .regD (X := Nat) (by kernel_rfl) (fun ζ => .of [(6, .one (.ptr [6] (k1 + 1 + 1) 0))] [([6], (k1 + 1 + 1, ζ, .box [.d (.v (.int .i64 (truthN (allB op a b)))), .d (.v (.int .i64 (1 - (truthN (allB (oppN op) a b)))))]))]) [⟨[0], some 21, [], []⟩, ⟨[4], some 22, [[4]], []⟩, ⟨[5], some 23, [[5]], []⟩, ⟨[21, 22, 23], some 24, [], []⟩, ⟨[24], some 25, [], []⟩, ⟨[0], some 26, [], []⟩, ⟨[26], some 27, [], []⟩, ⟨[4], some 28, [[4]], []⟩, ⟨[5], some 29, [[5]], []⟩, ⟨[27, 28, 29], some 30, [], []⟩, ⟨[30], some 31, [], []⟩, ⟨[31], some 32, [], []⟩, ⟨[25, 32], some 33, [], []⟩, ⟨[6, 33], none, [[6]], [[6]]⟩] (by kernel_rfl) (fun k9 => ?_) ?_
  ·skip
   refine .move (.no rfl) rfl rfl rfl rfl <| .load (.no rfl) rfl t25 rfl rfl (.ptr _ _ _ _ _ rfl) rfl rfl rfl rfl <| .load (.no rfl) rfl t25 rfl rfl (.ptr _ _ _ _ _ rfl) rfl rfl rfl rfl <| .call (.no rfl) rfl [] [] (c_l7All op a b (by first | omega | exact opp_in (by omega))) rfl rfl rfl rfl rfl (.dd (.dd (.dd (.dd (.dd .nil))))) rfl rfl (fun h => absurd rfl h) (.own [24, 0] .nil) (.nil) rfl rfl rfl (by simp) rfl rfl rfl <| .call (.no rfl) rfl [] [] (c_l5One (allB op a b)) rfl rfl rfl rfl rfl (.dd .nil) rfl rfl (fun h => absurd rfl h) (.own [25, 0] .nil) (.nil) rfl rfl rfl (by simp) rfl rfl rfl <| .move (.no rfl) rfl rfl rfl rfl <| .call (.no rfl) rfl [] [] (c_l7Not op (by first | omega | exact opp_in (by omega))) rfl rfl rfl rfl rfl (.dd .nil) rfl rfl (fun h => absurd rfl h) (.own [27, 0] .nil) (.nil) rfl rfl rfl (by simp) rfl rfl rfl ?_
   refine .load (.no rfl) rfl t25 rfl rfl (.ptr _ _ _ _ _ rfl) rfl rfl rfl rfl <| .load (.no rfl) rfl t25 rfl rfl (.ptr _ _ _ _ _ rfl) rfl rfl rfl rfl <| .call (.no rfl) rfl [] [] (c_l7All (oppN op) a b (by first | omega | exact opp_in (by omega))) rfl rfl rfl rfl rfl (.dd (.dd (.dd (.dd (.dd .nil))))) rfl rfl (fun h => absurd rfl h) (.own [30, 0] .nil) (.nil) rfl rfl rfl (by simp) rfl rfl rfl <| .call (.no rfl) rfl [] [] (c_l5One (allB (oppN op) a b)) rfl rfl rfl rfl rfl (.dd .nil) rfl rfl (fun h => absurd rfl h) (.own [31, 0] .nil) (.nil) rfl rfl rfl (by simp) rfl rfl rfl <| .binN (.no rfl) rfl (show IntKind.wrap .i64 (1 - (truthN (allB (oppN op) a b))) = 1 - (truthN (allB (oppN op) a b)) by (have h9 := truthN_01 (allB (oppN op) a b); exact wrap_le (by omega) (by omega))) rfl rfl rfl rfl rfl <| .build (.no rfl) rfl z25 rfl p25 rfl rfl rfl rfl ?_
   refine .store (.no rfl) rfl t25 rfl rfl rfl rfl rfl rfl rfl rfl rfl ?_
   exact .fin (k9 + 1 + 1 + 1 + 1 + 1 + 1 + 1 + 1 + 1 + 1 + 1 + 1 + 1) (.of (.r rfl) (.r rfl))
  intro g10
  refine .ret ?_
  have e11 : (truthN (allB op a b)) = ((cmV op a b).lo) := by (first | (rw [cmV_no (cmB_no c0)]) | exact (all_cm hcm).1 | exact (all_cm hcm).2)
  have e12 : (1 - (truthN (allB (oppN op) a b))) = ((cmV op a b).hi) := by (first | (rw [cmV_no (cmB_no c0)]) | exact (all_cm hcm).1 | exact (all_cm hcm).2)
  have hc13 := eq2 (fun z1 z2 => some (k1 + 1 + 1, g10, O.box [.d (.v (.int .i64 (z1))), .d (.v (.int .i64 (z2)))])) e11 e12
  exact fin0 (.inr rfl) (.cell (cells := [.d (.v (.int .i64 ((cmV op a b).lo))), .d (.v (.int .i64 ((cmV op a b).hi)))]) rfl hc13 t25 rfl rfl .nil) (.dd (.dd .nil)) rfl
end Go.Proofs

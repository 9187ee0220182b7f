/- Contracts of the program's functions at this seat, printed by a program of ours and checked by Lean: each under the conditions of its own statement. -/
import Derived.Test.YtgpcioamhfaodaaDoorE4
import Derived.Test.YtgpcioamhfaodaaDoorE5
import Derived.Test.YtgpcioamhfaodaaDoorE6
import Derived.Test.YtgpcioamhfaodaaDoorProg
import Derived.Test.YtgpcioamhfaodaaDoorShelf
set_option linter.all false
set_option linter.unnecessarySimpa false
set_option linter.unusedSectionVars false
set_option linter.unusedSimpArgs false
set_option linter.unusedVariables false
namespace Go.Proofs
open Go Go.Proofs Go.Ev
instance : Lay := ⟨[(0, (List.range 256).map fun c => .v (.int .u8 (if Lib.isSp (UInt8.ofNat c) then 1 else 0)))]⟩

def Iv.c (x : Iv) : List D := [.v (.int .i64 (x.lo)), .v (.int .i64 (x.hi))]
theorem Iv.c_o (x : Iv) : ∀ d ∈ Iv.c x, Owned d := by simp [Iv.c, Owned.v]
theorem Iv.c_e (x : Iv) : (Iv.c x).map D.erase = Iv.c x := by simp [Iv.c, D.erase_v]
def strc (x : ByteArray) : List D := [.v (.string x)]
theorem strc_e (x : ByteArray) : (strc x).map D.erase = strc x := by simp [strc, D.erase_v]
theorem strc_o (x : ByteArray) : ∀ d ∈ strc x, Owned d := by simp [strc, Owned.v]
def Env.c30 (x : Env) : List D := [.v (.bool (x.live)), .sl false 32 2 (List.map Iv.c (x.ints)), .sl false 32 2 (List.map Iv.c (x.arrs))]
theorem Env.c30_e (x : Env) : (Env.c30 x).map D.erase = Env.c30 x := by simp [Env.c30, D.erase_v, erase_slo _ _ _ _ _ _ Iv.c_e]
def Env.co30 (x : Env) : List D := [.v (.bool (x.live)), .sl true 32 2 (List.map Iv.c (x.ints)), .sl true 32 2 (List.map Iv.c (x.arrs))]
theorem Env.co30_e (x : Env) : (Env.co30 x).map D.erase = Env.c30 x := by simp [Env.co30, Env.c30, D.erase_v, erase_slo _ _ _ _ _ _ Iv.c_e]
theorem Env.co30_o (x : Env) : ∀ d ∈ Env.co30 x, Owned d := by simp [Env.co30, Owned.v, Owned.map _ _ _ _ Iv.c_o]
def i2 : TI := ⟨.int .i64, 1, 8, [.int .i64 0]⟩
theorem t2 : TyOk Tryd.prog 2 i2 := ⟨Tryd.underlying2, by kernel_rfl⟩
theorem z2 : ZOk Tryd.prog 2 i2 := ⟨t2, rfl⟩
def i4 : TI := ⟨.bool, 1, 1, [.bool false]⟩
theorem t4 : TyOk Tryd.prog 4 i4 := ⟨Tryd.underlying4, by kernel_rfl⟩
theorem z4 : ZOk Tryd.prog 4 i4 := ⟨t4, rfl⟩
def i9 : TI := ⟨.str, 1, 16, [.string .empty]⟩
theorem t9 : TyOk Tryd.prog 9 i9 := ⟨Tryd.underlying9, by kernel_rfl⟩
theorem z9 : ZOk Tryd.prog 9 i9 := ⟨t9, rfl⟩
def i24 : TI := ⟨.sl 9, 1, 24, [.slice none 0 0]⟩
theorem t24 : TyOk Tryd.prog 24 i24 := ⟨Tryd.underlying24, by kernel_rfl⟩
theorem z24 : ZOk Tryd.prog 24 i24 := ⟨t24, rfl⟩
def i28 : TI := ⟨.sl 32, 1, 24, [.slice none 0 0]⟩
theorem t28 : TyOk Tryd.prog 28 i28 := ⟨Tryd.underlying28, by kernel_rfl⟩
theorem z28 : ZOk Tryd.prog 28 i28 := ⟨t28, rfl⟩
def i30 : TI := ⟨.st [(0, 4), (1, 28), (2, 28)], 3, 56, [.bool false, .slice none 0 0, .slice none 0 0]⟩
theorem t30 : TyOk Tryd.prog 30 i30 := ⟨⟨_, Tryd.underlying30, rfl⟩, by kernel_rfl⟩
theorem z30 : ZOk Tryd.prog 30 i30 := ⟨t30, rfl⟩
theorem p30 : Places Tryd.prog [(0, 4), (1, 28), (2, 28)] [(0, 1), (1, 1), (2, 1)] := by unfold Places; kernel_rfl
def i32 : TI := ⟨.st [(0, 2), (1, 2)], 2, 16, [.int .i64 0, .int .i64 0]⟩
theorem t32 : TyOk Tryd.prog 32 i32 := ⟨⟨_, Tryd.underlying32, rfl⟩, by kernel_rfl⟩
theorem z32 : ZOk Tryd.prog 32 i32 := ⟨t32, rfl⟩
theorem p32 : Places Tryd.prog [(0, 2), (1, 2)] [(0, 1), (1, 1)] := by unfold Places; kernel_rfl
theorem c_l1In (n : Int) (lo : Int) (hi : Int) : Trip Tryd.prog 44 [(false, 1), (false, 1), (false, 1)] ([.v (.int .i64 (n))] ++ [.v (.int .i64 (lo))] ++ [.v (.int .i64 (hi))]) [(false, 1)] [.v (.bool (inR n lo hi))] [] := by
 refine Trip.of Tryd.func44 (by decide) (c := _) rfl rfl (Nat.le_of_ble_eq_true rfl) rfl (AftOk.nil _) <| .seq <| .rs fun k1 => .as rfl <| .z <| .seq ?_
 refine .reg (X := Unit) (fun ζ => .of [(6, .one (.d (.v (.bool ((decide (n ≥ lo) && decide (n ≤ hi)))))))] []) [⟨[0], some 7, [], []⟩, ⟨[1], some 8, [], []⟩, ⟨[7, 8], some 9, [], []⟩, ⟨[9], some 10, [], []⟩, ⟨[10, 0], some 11, [], []⟩, ⟨[10, 2], some 12, [], []⟩, ⟨[10, 11, 12], some 13, [], []⟩, ⟨[10, 13], some 14, [], []⟩, ⟨[14], some 6, [], []⟩] (fun k2 => ?_) ?_
 ·skip
  refine .move (.no rfl) rfl rfl rfl rfl <| .move (.no rfl) rfl rfl rfl rfl <| .bin (.no rfl) rfl rfl rfl rfl rfl rfl <| .moveB (.no rfl) rfl rfl rfl rfl fun b3 g1_3 => ?_
  cases b3
  ·skip
   refine .off rfl rfl rfl rfl rfl rfl rfl <| .off rfl rfl rfl rfl rfl rfl rfl <| .off rfl rfl rfl rfl rfl rfl rfl <| .pick (.no rfl) rfl rfl rfl rfl rfl <| .assign (.no rfl) rfl rfl rfl rfl ?_
   exact .fin () (.of (.cons (svB (show (false) = ((decide (n ≥ lo) && decide (n ≤ hi))) by first | (simp only [g1_3, Bool.true_or, Bool.false_or, Bool.true_and, Bool.false_and, Bool.not_true, Bool.not_false]; done) | simp [g1_3])) .nil) .nil)
  ·skip
   refine .move (.on rfl rfl rfl rfl rfl) rfl rfl rfl rfl <| .move (.on rfl rfl rfl rfl rfl) rfl rfl rfl rfl <| .bin (.on rfl rfl rfl rfl rfl) rfl rfl rfl rfl rfl rfl <| .pick (.no rfl) rfl rfl rfl rfl rfl <| .assign (.no rfl) rfl rfl rfl rfl ?_
   exact .fin () (.of (.cons (svB (show (decide (n ≤ hi)) = ((decide (n ≥ lo) && decide (n ≤ hi))) by first | (simp only [g1_3, Bool.true_or, Bool.false_or, Bool.true_and, Bool.false_and, Bool.not_true, Bool.not_false]; done) | simp [g1_3])) .nil) .nil)
 intro _
 refine .ret ?_
 exact fin0 (.inr rfl) (.one (svB (show ((decide (n ≥ lo) && decide (n ≤ hi))) = (inR n lo hi) by (first | rfl | simp_all [inR]))) .nil) (.dd .nil) rfl
theorem c_sIvOk (a : Iv) : Trip Tryd.prog 12 [(true, 2)] (Iv.c a) [(false, 1)] [.v (.bool (Iv.ok a))] [] := by
 refine Trip.of Tryd.func12 (by decide) (c := _) rfl rfl (Nat.le_of_ble_eq_true rfl) rfl (AftOk.nil _) <| .seq <| .rs fun k1 => .g (fun _ τ => ⟨_, .box (.no rfl) rfl rfl rfl rfl rfl τ⟩) <| .as rfl <| .z <| .seq <| .rs fun k2 => .fp t32 t2 rfl ?_
 refine .ld t2 rfl (.ptr _ _ _ _ _ rfl) rfl <| .fp t32 t2 rfl <| .ld t2 rfl (.ptr _ _ _ _ _ rfl) rfl <| .bi rfl <| .as rfl <| .z <| .ret ?_
 exact fin0 (.inr rfl) (.one (svB (show (decide (a.lo ≤ a.hi)) = (Iv.ok a) by rfl)) .nil) (.dd .nil) rfl
theorem c_l3Key (s : ByteArray) : Trip Tryd.prog 119 [(false, 1)] ([.v (.string (s))]) [(false, 1)] [.v (.bool (isKey s))] [] := by
 refine Trip.of Tryd.func119 (by decide) (c := _) rfl rfl (Nat.le_of_ble_eq_true rfl) rfl (AftOk.nil _) <| .seq <| .rs fun k1 => .as rfl <| .z <| .seq <| .rs fun k2 => ?_
 refine .g (fun _ τ => ⟨_, .buildSlice (.no rfl) rfl (els := [[.v (.string ((⟨#[118, 97, 114]⟩ : ByteArray)))], [.v (.string ((⟨#[102, 108, 97, 103]⟩ : ByteArray)))], [.v (.string ((⟨#[97, 114, 114, 97, 121]⟩ : ByteArray)))], [.v (.string ((⟨#[105, 102]⟩ : ByteArray)))], [.v (.string ((⟨#[102, 111, 114, 107]⟩ : ByteArray)))], [.v (.string ((⟨#[101, 108, 115, 101]⟩ : ByteArray)))], [.v (.string ((⟨#[101, 110, 100]⟩ : ByteArray)))], [.v (.string ((⟨#[119, 104, 105, 108, 101]⟩ : ByteArray)))], [.v (.string ((⟨#[117, 110, 114, 111, 108, 108]⟩ : ByteArray)))], [.v (.string ((⟨#[97, 115, 115, 101, 114, 116]⟩ : ByteArray)))], [.v (.string ((⟨#[97, 115, 115, 117, 109, 101]⟩ : ByteArray)))], [.v (.string ((⟨#[105, 110, 112, 117, 116]⟩ : ByteArray)))], [.v (.string ((⟨#[115, 112, 108, 105, 116]⟩ : ByteArray)))], [.v (.string ((⟨#[109, 101, 114, 103, 101]⟩ : ByteArray)))], [.v (.string ((⟨#[116, 114, 117, 101]⟩ : ByteArray)))], [.v (.string ((⟨#[102, 97, 108, 115, 101]⟩ : ByteArray)))]]) t24 rfl z9 rfl rfl rfl rfl rfl rfl rfl rfl (by simp [i9]) (.cons _ _ _ _ _ _ (.d _) (.cons _ _ _ _ _ _ (.d _) (.cons _ _ _ _ _ _ (.d _) (.cons _ _ _ _ _ _ (.d _) (.cons _ _ _ _ _ _ (.d _) (.cons _ _ _ _ _ _ (.d _) (.cons _ _ _ _ _ _ (.d _) (.cons _ _ _ _ _ _ (.d _) (.cons _ _ _ _ _ _ (.d _) (.cons _ _ _ _ _ _ (.d _) (.cons _ _ _ _ _ _ (.d _) (.cons _ _ _ _ _ _ (.d _) (.cons _ _ _ _ _ _ (.d _) (.cons _ _ _ _ _ _ (.d _) (.cons _ _ _ _ _ _ (.d _) (.cons _ _ _ _ _ _ (.d _) .nil)))))))))))))))) rfl rfl rfl τ⟩) ?_
 refine .as rfl <| .z <| .seq <| .seq <| .rs fun k3 => .as rfl <| .z <| .block ?_
 refine .loop (X := Nat × Nat × Nat) (fun ζ => .of [(0, .one (.d (.v (.string (s))))), (3, .one (.ref [5] (ζ.2.1))), (4, .one (.d (.v (.int .i64 ((ζ.1 : Int))))))] [([5], (ζ.2.1, ζ.2.2, .row 9 1 (List.map strc (keys))))]) (fun ζ => ζ.1 ≤ keys.length ∧ allTo ζ.1 (fun i => !strEq (keys.getD i default) s) = true) (fun ζ => keys.length - ζ.1) ?_ ?_
 ·skip
  exact .here (0, k2, k2) (.of (.cons rfl (.cons rfl (.cons (svI (show (0) = ((0 : Int)) by first | rfl | omega | exact wrap_le (by omega) (by omega) | (rw [wrap_le (by omega) (by omega)]; omega))) .nil))) (.cons (rowE (show [[.v (.string ((⟨#[118, 97, 114]⟩ : ByteArray)))], [.v (.string ((⟨#[102, 108, 97, 103]⟩ : ByteArray)))], [.v (.string ((⟨#[97, 114, 114, 97, 121]⟩ : ByteArray)))], [.v (.string ((⟨#[105, 102]⟩ : ByteArray)))], [.v (.string ((⟨#[102, 111, 114, 107]⟩ : ByteArray)))], [.v (.string ((⟨#[101, 108, 115, 101]⟩ : ByteArray)))], [.v (.string ((⟨#[101, 110, 100]⟩ : ByteArray)))], [.v (.string ((⟨#[119, 104, 105, 108, 101]⟩ : ByteArray)))], [.v (.string ((⟨#[117, 110, 114, 111, 108, 108]⟩ : ByteArray)))], [.v (.string ((⟨#[97, 115, 115, 101, 114, 116]⟩ : ByteArray)))], [.v (.string ((⟨#[97, 115, 115, 117, 109, 101]⟩ : ByteArray)))], [.v (.string ((⟨#[105, 110, 112, 117, 116]⟩ : ByteArray)))], [.v (.string ((⟨#[115, 112, 108, 105, 116]⟩ : ByteArray)))], [.v (.string ((⟨#[109, 101, 114, 103, 101]⟩ : ByteArray)))], [.v (.string ((⟨#[116, 114, 117, 101]⟩ : ByteArray)))], [.v (.string ((⟨#[102, 97, 108, 115, 101]⟩ : ByteArray)))]] = List.map strc (keys) by rfl)) .nil)) (show 0 ≤ keys.length ∧ allTo 0 (fun i => !strEq (keys.getD i default) s) = true by exact ⟨by omega, rfl⟩)
 ·rintro ⟨j, q4, q5⟩ hI
  have hI : j ≤ keys.length ∧ allTo j (fun i => !strEq (keys.getD i default) s) = true := hI
  have hk9 : keys.length = 16 := rfl
  dsimp only
  refine .seq <| .seq <| .rs fun k6 => .mv rfl <| .mv rfl <| .g (fun _ τ => ⟨_, .len (.no rfl) rfl (z := (keys.length : Int)) t24 rfl rfl rfl (.ref _ _ _ _ _ rfl) (map_len _ _) rfl τ⟩) <| .bi rfl <| .z ?_
  refine .cond (t := decide ((j : Int) < (keys.length : Int))) rfl (fun c0 => ?_) (fun c0 => ?_)
  ·have c0 := of_decide_eq_true c0
   refine .skip <| .seq <| .block <| .seq <| .rs fun k7 => .mv rfl <| .mv rfl <| .g (fun _ τ => ⟨_, .indexAddr (.no rfl) rfl (j) t24 rfl t9 rfl rfl rfl (.ref _ _ _ _ _ rfl) rfl rfl rfl (map_get (by omega)) rfl rfl τ⟩) <| .ld t9 rfl (.eptr _ _ _ _ _ _ _ _ _ rfl (map_get (by omega))) rfl ?_
   refine .mv rfl <| .bi rfl <| .z ?_
   refine .cond (t := (keys.getD j default).toList == s.toList) rfl (fun c1 => ?_) (fun c1 => ?_)
   ·have c1 := c1
    refine .seq <| .rs fun k8 => .as rfl <| .z <| .ret ?_
    exact fin0 (.inr rfl) (.one (svB (show (true) = (isKey s) by exact (any_found (p := fun x => strEq x s) (j := j) (by omega) c1).symm)) .nil) (.dd .nil) rfl
   ·have c1 := c1
    refine .skip <| .rs fun k10 => .mv rfl <| .bi rfl <| .as rfl <| .z ?_
    exact .here ((j + 1), q4, q5) (.of (.cons rfl (.cons rfl (.cons (svI (show (IntKind.wrap .i64 ((j : Int) + 1)) = (((j + 1) : Int)) by first | rfl | omega | exact wrap_le (by omega) (by omega) | (rw [wrap_le (by omega) (by omega)]; omega))) .nil))) (.r rfl)) ⟨(show (j + 1) ≤ keys.length ∧ allTo (j + 1) (fun i => !strEq (keys.getD i default) s) = true by exact ⟨by omega, allTo_step hI.2 (by rw [show strEq (keys.getD j default) s = false from c1]; rfl)⟩), (show keys.length - (j + 1) < keys.length - j by omega)⟩
  ·have c0 := of_decide_eq_false c0
   refine .exit <| .seq <| .rs fun k11 => .as rfl <| .z <| .ret ?_
   exact fin0 (.inr rfl) (.one (svB (show (false) = (isKey s) by exact (any_none (p := fun x => strEq x s) (j := j) (by omega) hI.2).symm)) .nil) (.dd .nil) rfl
theorem c_l3Name (s : ByteArray) (hs : s.size ≤ 9223372036854775807) : Trip Tryd.prog 90 [(false, 1)] ([.v (.string (s))]) [(false, 1)] [.v (.bool (nmOk s))] [] := by
 refine Trip.of Tryd.func90 (by decide) (c := _) rfl rfl (Nat.le_of_ble_eq_true rfl) rfl (AftOk.nil _) <| .seq <| .rs fun k1 => .as rfl <| .z <| .seq <| .seq <| .rs fun k2 => .as rfl ?_
 refine .z <| .block ?_
 refine .loop (X := Nat) (fun ζ => .of [(0, .one (.d (.v (.string (s))))), (3, .one (.d (.v (.int .i64 ((ζ : Int))))))] []) (fun ζ => ζ ≤ s.size ∧ allTo ζ (fun i => decide (97 ≤ byteAt s i ∧ byteAt s i ≤ 122)) = true) (fun ζ => s.size - ζ) ?_ ?_
 ·skip
  exact .here 0 (.of (.cons rfl (.cons (svI (show (0) = ((0 : Int)) by first | rfl | omega | exact wrap_le (by omega) (by omega) | (rw [wrap_le (by omega) (by omega)]; omega))) .nil)) .nil) (show 0 ≤ s.size ∧ allTo 0 (fun i => decide (97 ≤ byteAt s i ∧ byteAt s i ≤ 122)) = true by exact ⟨by omega, rfl⟩)
 ·rintro j hI
  have hI : j ≤ s.size ∧ allTo j (fun i => decide (97 ≤ byteAt s i ∧ byteAt s i ≤ 122)) = true := hI
  refine .seq <| .seq <| .rs fun k3 => .mv rfl <| .mv rfl <| .g (fun _ τ => ⟨_, .lenStr (.no rfl) rfl t9 rfl rfl rfl rfl rfl τ⟩) <| .bi rfl <| .z ?_
  refine .cond (t := decide ((j : Int) < (s.size : Int))) rfl (fun c0 => ?_) (fun c0 => ?_)
  ·have c0 := of_decide_eq_true c0
   refine .skip <| .seq <| .block <| .seq ?_
   refine .reg (X := Unit) (fun ζ => .of [(0, .one (.d (.v (.string (s))))), (3, .one (.d (.v (.int .i64 ((j : Int)))))), (19, .one (.d (.v (.bool ((decide ((byteAt s j) < 97) || decide ((byteAt s j) > 122)))))))] []) [⟨[0], some 10, [], []⟩, ⟨[3], some 11, [], []⟩, ⟨[10, 11], some 12, [], []⟩, ⟨[12], some 13, [], []⟩, ⟨[13], some 14, [], []⟩, ⟨[14, 0], some 15, [], []⟩, ⟨[14, 3], some 16, [], []⟩, ⟨[14, 15, 16], some 17, [], []⟩, ⟨[14, 17], some 18, [], []⟩, ⟨[14, 18], some 19, [], []⟩] (fun k4 => ?_) ?_
   ·skip
    refine .move (.no rfl) rfl rfl rfl rfl <| .move (.no rfl) rfl rfl rfl rfl <| .indexStr (.no rfl) rfl (z := byteAt s j) (j) t9 rfl rfl rfl rfl rfl (b8_get (by omega)) rfl rfl <| .bin (.no rfl) rfl rfl rfl rfl rfl rfl <| .moveB (.no rfl) rfl rfl rfl rfl fun b5 g4_4 => ?_
    cases b5
    ·skip
     refine .move (.on rfl rfl rfl rfl rfl) rfl rfl rfl rfl <| .move (.on rfl rfl rfl rfl rfl) rfl rfl rfl rfl <| .indexStr (.on rfl rfl rfl rfl rfl) rfl (z := byteAt s j) (j) t9 rfl rfl rfl rfl rfl (b8_get (by omega)) rfl rfl <| .bin (.on rfl rfl rfl rfl rfl) rfl rfl rfl rfl rfl rfl <| .pick (.no rfl) rfl rfl rfl rfl rfl ?_
     exact .fin () (.of (.cons rfl (.cons rfl (.cons (svB (show (decide ((byteAt s j) > 122)) = ((decide ((byteAt s j) < 97) || decide ((byteAt s j) > 122))) by first | (simp only [g4_4, Bool.true_or, Bool.false_or, Bool.true_and, Bool.false_and, Bool.not_true, Bool.not_false]; done) | simp [g4_4])) .nil))) .nil)
    ·skip
     refine .off rfl rfl rfl rfl rfl rfl rfl <| .off rfl rfl rfl rfl rfl rfl rfl <| .off rfl rfl rfl rfl rfl rfl rfl <| .off rfl rfl rfl rfl rfl rfl rfl <| .pick (.no rfl) rfl rfl rfl rfl rfl ?_
     exact .fin () (.of (.cons rfl (.cons rfl (.cons (svB (show (true) = ((decide ((byteAt s j) < 97) || decide ((byteAt s j) > 122))) by first | (simp only [g4_4, Bool.true_or, Bool.false_or, Bool.true_and, Bool.false_and, Bool.not_true, Bool.not_false]; done) | simp [g4_4])) .nil))) .nil)
   intro _
   refine .cond (t := (decide ((byteAt s j) < 97) || decide ((byteAt s j) > 122))) rfl (fun c1 => ?_) (fun c1 => ?_)
   ·have c1 := (oT dT dT) c1
    refine .seq <| .rs fun k6 => .as rfl <| .z <| .ret ?_
    exact fin0 (.inr rfl) (.one (svB (show (false) = (nmOk s) by (simp only [nmOk, letters]; rw [allTo_fail (j := j) (by omega) (by have h9 := byteAt_le s j; simp only [decide_eq_false_iff_not]; omega)]; rfl))) .nil) (.dd .nil) rfl
   ·have c1 := (oF dF dF) c1
    refine .skip <| .rs fun k8 => .mv rfl <| .bi rfl <| .as rfl <| .z ?_
    exact .here (j + 1) (.of (.cons rfl (.cons (svI (show (IntKind.wrap .i64 ((j : Int) + 1)) = (((j + 1) : Int)) by first | rfl | omega | exact wrap_le (by omega) (by omega) | (rw [wrap_le (by omega) (by omega)]; omega))) .nil)) .nil) ⟨(show (j + 1) ≤ s.size ∧ allTo (j + 1) (fun i => decide (97 ≤ byteAt s i ∧ byteAt s i ≤ 122)) = true by exact ⟨by omega, allTo_step hI.2 (by simp only [decide_eq_true_eq]; omega)⟩), (show s.size - (j + 1) < s.size - j by omega)⟩
  ·have c0 := of_decide_eq_false c0
   refine .exit <| .seq ?_
   refine .reg (X := Unit) (fun ζ => .of [(2, .one (.d (.v (.bool ((inR (s.size : Int) 1 8 && !(isKey s)))))))] []) [⟨[0], some 20, [], []⟩, ⟨[20], some 21, [], []⟩, ⟨[21], some 22, [], []⟩, ⟨[22], some 23, [], []⟩, ⟨[23, 0], some 24, [], []⟩, ⟨[23, 24], some 25, [], []⟩, ⟨[23, 25], some 26, [], []⟩, ⟨[23, 26], some 27, [], []⟩, ⟨[27], some 2, [], []⟩] (fun k9 => ?_) ?_
   ·skip
    refine .move (.no rfl) rfl rfl rfl rfl <| .lenStr (.no rfl) rfl t9 rfl rfl rfl rfl rfl <| .call (.no rfl) rfl [] [] (c_l1In (s.size : Int) 1 8) rfl rfl rfl rfl rfl (.dd (.dd (.dd .nil))) rfl rfl (fun h => absurd rfl h) (.own [22, 0] .nil) (.nil) rfl rfl rfl (by simp) rfl rfl rfl <| .moveB (.no rfl) rfl rfl rfl rfl fun b10 g6_3 => ?_
    cases b10
    ·skip
     refine .off rfl rfl rfl rfl rfl rfl rfl <| .off rfl rfl rfl rfl rfl rfl rfl <| .off rfl rfl rfl rfl rfl rfl rfl <| .pick (.no rfl) rfl rfl rfl rfl rfl <| .assign (.no rfl) rfl rfl rfl rfl ?_
     exact .fin () (.of (.cons (svB (show (false) = ((inR (s.size : Int) 1 8 && !(isKey s))) by first | (simp only [g6_3, Bool.true_or, Bool.false_or, Bool.true_and, Bool.false_and, Bool.not_true, Bool.not_false]; done) | simp [g6_3])) .nil) .nil)
    ·skip
     refine .move (.on rfl rfl rfl rfl rfl) rfl rfl rfl rfl <| .call (.on rfl rfl rfl rfl rfl) rfl [] [] (c_l3Key s) rfl rfl rfl rfl rfl (.dd .nil) rfl rfl (fun h => absurd rfl h) (.own [25, 0] .nil) (.nil) rfl rfl rfl (by simp) rfl rfl rfl <| .un (.on rfl rfl rfl rfl rfl) rfl rfl rfl rfl rfl <| .pick (.no rfl) rfl rfl rfl rfl rfl <| .assign (.no rfl) rfl rfl rfl rfl ?_
     exact .fin () (.of (.cons (svB (show (!(isKey s)) = ((inR (s.size : Int) 1 8 && !(isKey s))) by first | (simp only [g6_3, Bool.true_or, Bool.false_or, Bool.true_and, Bool.false_and, Bool.not_true, Bool.not_false]; done) | simp [g6_3])) .nil) .nil)
   intro _
   refine .ret ?_
   exact fin0 (.inr rfl) (.one (svB (show ((inR (s.size : Int) 1 8 && !(isKey s))) = (nmOk s) by (have hj : j = s.size := (by omega); subst hj; simp only [nmOk, letters]; rw [hI.2]; first | rfl | simp_all))) .nil) (.dd .nil) rfl
theorem c_l3Place (l : List ByteArray) (s : ByteArray) : Trip Tryd.prog 91 [(false, 1), (false, 1)] ([.sl false 9 1 (List.map strc (l))] ++ [.v (.string (s))]) [(false, 1)] [.v (.int .i64 (place l s))] [] := by
 refine Trip.of Tryd.func91 (by decide) (c := _) rfl rfl (Nat.le_of_ble_eq_true rfl) rfl (AftOk.nil _) <| .sl (t := 0) rfl fun hs1l => .seq <| .rs fun k2 => .as rfl <| .z <| .seq <| .seq <| .rs fun k3 => ?_
 refine .as rfl <| .z <| .block ?_
 refine .loop (X := Nat) (fun ζ => .of [(0, .one (.d (.sl false 9 1 (List.map strc (l))))), (1, .one (.d (.v (.string (s))))), (5, .one (.d (.v (.int .i64 ((ζ : Int))))))] []) (fun ζ => ζ ≤ l.length ∧ allTo ζ (fun i => !strEq (l.getD i default) s) = true) (fun ζ => l.length - ζ) ?_ ?_
 ·skip
  exact .here 0 (.of (.cons rfl (.cons rfl (.cons (svI (show (0) = ((0 : Int)) by first | rfl | omega | exact wrap_le (by omega) (by omega) | (rw [wrap_le (by omega) (by omega)]; omega))) .nil))) .nil) (show 0 ≤ l.length ∧ allTo 0 (fun i => !strEq (l.getD i default) s) = true by exact ⟨by omega, rfl⟩)
 ·rintro j hI
  have hI : j ≤ l.length ∧ allTo j (fun i => !strEq (l.getD i default) s) = true := hI
  refine .seq <| .seq <| .rs fun k4 => .mv rfl <| .mv rfl <| .g (fun _ τ => ⟨_, .len (.no rfl) rfl (z := (l.length : Int)) t24 rfl rfl rfl (.d _ _) (map_len _ _) rfl τ⟩) <| .bi rfl <| .z ?_
  refine .cond (t := decide ((j : Int) < (l.length : Int))) rfl (fun c0 => ?_) (fun c0 => ?_)
  ·have c0 := of_decide_eq_true c0
   refine .skip <| .seq <| .block <| .seq <| .rs fun k5 => .mv rfl <| .mv rfl <| .g (fun _ τ => ⟨_, .indexAddr (.no rfl) rfl (j) t24 rfl t9 rfl rfl rfl (.d _ _) rfl rfl rfl (map_get (by omega)) rfl rfl τ⟩) <| .ld t9 rfl (.d _) rfl ?_
   refine .mv rfl <| .bi rfl <| .z ?_
   refine .cond (t := (l.getD j default).toList == s.toList) rfl (fun c1 => ?_) (fun c1 => ?_)
   ·have c1 := c1
    refine .seq <| .rs fun k6 => .mv rfl <| .as rfl <| .z <| .ret ?_
    exact fin0 (.inr rfl) (.one (svI (show ((j : Int)) = (place l s) by exact (idx_found (p := fun x => strEq x s) (by omega) hI.2 c1).symm)) .nil) (.dd .nil) rfl
   ·have c1 := c1
    refine .skip <| .rs fun k8 => .mv rfl <| .bi rfl <| .as rfl <| .z ?_
    exact .here (j + 1) (.of (.cons rfl (.cons rfl (.cons (svI (show (IntKind.wrap .i64 ((j : Int) + 1)) = (((j + 1) : Int)) by first | rfl | omega | exact wrap_le (by omega) (by omega) | (rw [wrap_le (by omega) (by omega)]; omega))) .nil))) .nil) ⟨(show (j + 1) ≤ l.length ∧ allTo (j + 1) (fun i => !strEq (l.getD i default) s) = true by exact ⟨by omega, allTo_step hI.2 (by rw [show strEq (l.getD j default) s = false from c1]; rfl)⟩), (show l.length - (j + 1) < l.length - j by omega)⟩
  ·have c0 := of_decide_eq_false c0
   refine .exit <| .seq <| .rs fun k9 => .as rfl <| .z <| .ret ?_
   exact fin0 (.inr rfl) (.one (svI (show (-1) = (place l s) by exact (idx_none (p := fun x => strEq x s) (j := j) (by omega) hI.2).symm)) .nil) (.dd .nil) rfl
theorem c_l6List (e : Env) (hb : e.ints.length ≤ 1048576 ∧ e.arrs.length ≤ 1048576) : Trip Tryd.prog 48 [(true, 3)] (Env.c30 e) [(false, 1)] [.sl true 32 2 (List.map Iv.c (e.ints ++ e.arrs))] [] := by
 refine Trip.of Tryd.func48 (by decide) (c := _) rfl rfl (Nat.le_of_ble_eq_true rfl) rfl (AftOk.nil _) <| .sla (t := 0) 1 rfl rfl fun hs1l => .sla (t := 0) 2 rfl rfl fun hs2l => .seq <| .rs fun k3 => .g (fun _ τ => ⟨_, .box (.no rfl) rfl rfl rfl rfl rfl τ⟩) <| .as rfl <| .z <| .seq ?_
 refine .regD (X := Nat) (by kernel_rfl) (fun ζ => .of [(2, .one (.ref [3] (ζ)))] [([3], (ζ, ζ, .row 32 2 (List.map Iv.c (e.ints ++ e.arrs))))]) [⟨[], some 3, [], [[3]]⟩, ⟨[1], some 4, [], []⟩, ⟨[4], some 5, [[1]], []⟩, ⟨[3, 5], some 6, [[3]], [[3]]⟩, ⟨[1], some 7, [], []⟩, ⟨[7], some 8, [[1]], []⟩, ⟨[6, 8], some 9, [[3]], [[3]]⟩, ⟨[9], some 2, [], []⟩] (by kernel_rfl) (fun k4 => ?_) ?_
 ·skip
  refine .buildSlice (.no rfl) rfl (els := []) t28 rfl z32 rfl rfl rfl rfl rfl rfl rfl rfl (by simp [i32]) .nil rfl rfl rfl <| .fieldAddrP (.no rfl) rfl t30 rfl rfl t28 rfl rfl rfl rfl <| .load (.no rfl) rfl t28 rfl rfl (.ptr _ _ _ _ _ rfl) rfl rfl rfl rfl <| .append (.no rfl) rfl (l3 := List.map Iv.c (e.ints)) t28 rfl z32 rfl rfl rfl rfl rfl rfl rfl rfl (.ref _ _ _ _ rfl) (.ro _ _) rfl (by simp [i32]; omega) (List.nil_append _) rfl rfl <| .fieldAddrP (.no rfl) rfl t30 rfl rfl t28 rfl rfl rfl rfl <| .load (.no rfl) rfl t28 rfl rfl (.ptr _ _ _ _ _ rfl) rfl rfl rfl rfl <| .append (.no rfl) rfl (l3 := List.map Iv.c (e.ints ++ e.arrs)) t28 rfl z32 rfl rfl rfl rfl rfl rfl rfl rfl (.ref _ _ _ _ rfl) (.ro _ _) rfl (by simp [i32]; omega) (map_app _ _ _) rfl rfl <| .assign (.no rfl) rfl rfl rfl rfl ?_
  exact .fin (k4 + 1 + 1 + 1 + 1 + 1 + 1) (.of (.r rfl) (.r rfl))
 intro g5
 refine .ret ?_
 exact fin1 (.inr rfl) [] [([3], (g5, g5, .row 32 2 (List.map Iv.c (e.ints ++ e.arrs))))] (.one rfl .nil) (.cons (.ref (.head _)) .nil) rfl rfl (.r rfl)
theorem c_l6Copy (e : Env) (hb : e.ints.length ≤ 1048576 ∧ e.arrs.length ≤ 1048576) : Trip Tryd.prog 80 [(true, 3)] (Env.c30 e) [(true, 3)] [.v (.bool (e.live)), .sl true 32 2 (List.map Iv.c (e.ints)), .sl true 32 2 (List.map Iv.c (e.arrs))] [] := by
 refine Trip.of Tryd.func80 (by decide) (c := _) rfl rfl (Nat.le_of_ble_eq_true rfl) rfl (AftOk.nil _) <| .sla (t := 0) 1 rfl rfl fun hs1l => .sla (t := 0) 2 rfl rfl fun hs2l => .seq <| .rs fun k3 => .g (fun _ τ => ⟨_, .box (.no rfl) rfl rfl rfl rfl rfl τ⟩) <| .g (fun _ τ => ⟨_, .alloc (.no rfl) rfl z30 rfl rfl rfl τ⟩) <| .z <| .seq ?_
 refine .regD (X := Nat × Nat × Nat) (by kernel_rfl) (fun ζ => .of [(2, .one (.ptr [2] (k3 + 1) 0))] [([2], (k3 + 1, ζ.1, .box [.d (.v (.bool (e.live))), .ref [5] (ζ.2.1), .ref [9] (ζ.2.2)])), ([5], (ζ.2.1, ζ.2.1, .row 32 2 (List.map Iv.c (e.ints)))), ([9], (ζ.2.2, ζ.2.2, .row 32 2 (List.map Iv.c (e.arrs))))]) [⟨[1], some 3, [], []⟩, ⟨[3], some 4, [[1]], []⟩, ⟨[], some 5, [], [[5]]⟩, ⟨[1], some 6, [], []⟩, ⟨[6], some 7, [[1]], []⟩, ⟨[5, 7], some 8, [[5]], [[5]]⟩, ⟨[], some 9, [], [[9]]⟩, ⟨[1], some 10, [], []⟩, ⟨[10], some 11, [[1]], []⟩, ⟨[9, 11], some 12, [[9]], [[9]]⟩, ⟨[4, 8, 12], some 13, [], []⟩, ⟨[2, 13], none, [[2]], [[2]]⟩] (by kernel_rfl) (fun k4 => ?_) ?_
 ·skip
  refine .fieldAddrP (.no rfl) rfl t30 rfl rfl t4 rfl rfl rfl rfl <| .load (.no rfl) rfl t4 rfl rfl (.ptr _ _ _ _ _ rfl) rfl rfl rfl rfl <| .buildSlice (.no rfl) rfl (els := []) t28 rfl z32 rfl rfl rfl rfl rfl rfl rfl rfl (by simp [i32]) .nil rfl rfl rfl <| .fieldAddrP (.no rfl) rfl t30 rfl rfl t28 rfl rfl rfl rfl <| .load (.no rfl) rfl t28 rfl rfl (.ptr _ _ _ _ _ rfl) rfl rfl rfl rfl <| .append (.no rfl) rfl (l3 := List.map Iv.c (e.ints)) t28 rfl z32 rfl rfl rfl rfl rfl rfl rfl rfl (.ref _ _ _ _ rfl) (.ro _ _) rfl (by simp [i32]; omega) (List.nil_append _) rfl rfl <| .buildSlice (.no rfl) rfl (els := []) t28 rfl z32 rfl rfl rfl rfl rfl rfl rfl rfl (by simp [i32]) .nil rfl rfl rfl <| .fieldAddrP (.no rfl) rfl t30 rfl rfl t28 rfl rfl rfl rfl <| .load (.no rfl) rfl t28 rfl rfl (.ptr _ _ _ _ _ rfl) rfl rfl rfl rfl ?_
  refine .append (.no rfl) rfl (l3 := List.map Iv.c (e.arrs)) t28 rfl z32 rfl rfl rfl rfl rfl rfl rfl rfl (.ref _ _ _ _ rfl) (.ro _ _) rfl (by simp [i32]; omega) (List.nil_append _) rfl rfl <| .build (.no rfl) rfl z30 rfl p30 rfl rfl rfl rfl <| .store (.no rfl) rfl t30 rfl rfl rfl rfl rfl rfl rfl rfl rfl ?_
  exact .fin (k4 + 1 + 1 + 1 + 1 + 1 + 1 + 1 + 1 + 1 + 1 + 1, k4 + 1 + 1 + 1 + 1 + 1, k4 + 1 + 1 + 1 + 1 + 1 + 1 + 1 + 1 + 1) (.of (.r rfl) (.r rfl))
 rintro ⟨g5, g6, g7⟩
 refine .ret ?_
 exact fin1 (.inr rfl) [] [([5], (g6, g6, .row 32 2 (List.map Iv.c (e.ints)))), ([9], (g7, g7, .row 32 2 (List.map Iv.c (e.arrs))))] (.cell (cells := [.d (.v (.bool (e.live))), .ref [5] (g6), .ref [9] (g7)]) rfl rfl t30 rfl rfl .nil) (.dd (.cons (.ref (.head _)) (.cons (.ref (.tail _ (.head _))) .nil))) rfl rfl (.r rfl)
end Go.Proofs

namespace Go.Proofs
open Go Go.Proofs Go.Ev

def Arr.c (x : Arr) : List D := [.v (.string (x.name)), .v (.int .i64 (x.size))]
theorem Arr.c_o (x : Arr) : ∀ d ∈ Arr.c x, Owned d := by simp [Arr.c, Owned.v]
theorem Arr.c_e (x : Arr) : (Arr.c x).map D.erase = Arr.c x := by simp [Arr.c, D.erase_v]
def Decl.c27 (x : Decl) : List D := [.sl false 9 1 (List.map strc (x.vars)), .sl false 9 1 (List.map strc (x.flags)), .sl false 48 2 (List.map Arr.c (x.arrays))]
theorem Decl.c27_e (x : Decl) : (Decl.c27 x).map D.erase = Decl.c27 x := by simp [Decl.c27, D.erase_v, erase_slo _ _ _ _ _ _ strc_e, erase_slo _ _ _ _ _ _ Arr.c_e]
def Decl.co27 (x : Decl) : List D := [.sl true 9 1 (List.map strc (x.vars)), .sl true 9 1 (List.map strc (x.flags)), .sl true 48 2 (List.map Arr.c (x.arrays))]
theorem Decl.co27_e (x : Decl) : (Decl.co27 x).map D.erase = Decl.c27 x := by simp [Decl.co27, Decl.c27, D.erase_v, erase_slo _ _ _ _ _ _ strc_e, erase_slo _ _ _ _ _ _ Arr.c_e]
theorem Decl.co27_o (x : Decl) : ∀ d ∈ Decl.co27 x, Owned d := by simp [Decl.co27, Owned.v, Owned.map _ _ _ _ strc_o, Owned.map _ _ _ _ Arr.c_o]
def i25 : TI := ⟨.sl 48, 1, 24, [.slice none 0 0]⟩
theorem t25 : TyOk Tryd.prog 25 i25 := ⟨Tryd.underlying25, by kernel_rfl⟩
theorem z25 : ZOk Tryd.prog 25 i25 := ⟨t25, rfl⟩
def i27 : TI := ⟨.st [(0, 24), (1, 24), (2, 25)], 3, 72, [.slice none 0 0, .slice none 0 0, .slice none 0 0]⟩
theorem t27 : TyOk Tryd.prog 27 i27 := ⟨⟨_, Tryd.underlying27, rfl⟩, by kernel_rfl⟩
theorem z27 : ZOk Tryd.prog 27 i27 := ⟨t27, rfl⟩
theorem p27 : Places Tryd.prog [(0, 24), (1, 24), (2, 25)] [(0, 1), (1, 1), (2, 1)] := by unfold Places; kernel_rfl
def i48 : TI := ⟨.st [(0, 9), (1, 2)], 2, 24, [.string .empty, .int .i64 0]⟩
theorem t48 : TyOk Tryd.prog 48 i48 := ⟨⟨_, Tryd.underlying48, rfl⟩, by kernel_rfl⟩
theorem z48 : ZOk Tryd.prog 48 i48 := ⟨t48, rfl⟩
theorem p48 : Places Tryd.prog [(0, 9), (1, 2)] [(0, 1), (1, 1)] := by unfold Places; kernel_rfl
theorem c_sDeclOk (d : Decl) (hs : ∀ x ∈ Decl.names d, x.size ≤ 9223372036854775807) (hb : d.vars.length ≤ 1048576 ∧ d.flags.length ≤ 1048576 ∧ d.arrays.length ≤ 1048576) : Trip Tryd.prog 47 [(true, 3)] (Decl.c27 d) [(false, 1)] [.v (.bool (Decl.ok d))] [] := by
 refine Trip.of Tryd.func47 (by decide) (c := _) rfl rfl (Nat.le_of_ble_eq_true rfl) rfl (AftOk.nil _) <| .sla (t := 0) 0 rfl rfl fun hs1l => .sla (t := 0) 1 rfl rfl fun hs2l => .sla (t := 0) 2 rfl rfl fun hs3l => .seq <| .rs fun k4 => .g (fun _ τ => ⟨_, .box (.no rfl) rfl rfl rfl rfl rfl τ⟩) <| .as rfl <| .z ?_
 refine .seq <| .seq ?_
 refine .reg (X := Unit) (fun ζ => .of [(1, .one (.ptr [1] (k4) 0)), (21, .one (.d (.v (.bool (((decide ((d.vars.length : Int) > 5) || decide ((d.flags.length : Int) > 3)) || decide ((d.arrays.length : Int) > 2)))))))] [([1], (k4, k4, .box [.d (.sl false 9 1 (List.map strc (d.vars))), .d (.sl false 9 1 (List.map strc (d.flags))), .d (.sl false 48 2 (List.map Arr.c (d.arrays)))]))]) [⟨[1], some 6, [], []⟩, ⟨[6], some 7, [[1]], []⟩, ⟨[7], some 8, [], []⟩, ⟨[8], some 9, [], []⟩, ⟨[9], some 10, [], []⟩, ⟨[10, 1], some 11, [], []⟩, ⟨[10, 11], some 12, [[1]], []⟩, ⟨[10, 12], some 13, [], []⟩, ⟨[10, 13], some 14, [], []⟩, ⟨[10, 14], some 15, [], []⟩, ⟨[15], some 16, [], []⟩, ⟨[16, 1], some 17, [], []⟩, ⟨[16, 17], some 18, [[1]], []⟩, ⟨[16, 18], some 19, [], []⟩, ⟨[16, 19], some 20, [], []⟩, ⟨[16, 20], some 21, [], []⟩] (fun k5 => ?_) ?_
 ·skip
  refine .fieldAddrP (.no rfl) rfl t27 rfl rfl t24 rfl rfl rfl rfl <| .load (.no rfl) rfl t24 rfl rfl (.ptr _ _ _ _ _ rfl) rfl rfl rfl rfl <| .len (.no rfl) rfl (z := (d.vars.length : Int)) t24 rfl rfl rfl (.d _ _) (map_len _ _) rfl <| .bin (.no rfl) rfl rfl rfl rfl rfl rfl <| .moveB (.no rfl) rfl rfl rfl rfl fun b6 g1_4 => ?_
  cases b6
  ·skip
   refine .fieldAddrP (.on rfl rfl rfl rfl rfl) rfl t27 rfl rfl t24 rfl rfl rfl rfl <| .load (.on rfl rfl rfl rfl rfl) rfl t24 rfl rfl (.ptr _ _ _ _ _ rfl) rfl rfl rfl rfl <| .len (.on rfl rfl rfl rfl rfl) rfl (z := (d.flags.length : Int)) t24 rfl rfl rfl (.d _ _) (map_len _ _) rfl <| .bin (.on rfl rfl rfl rfl rfl) rfl rfl rfl rfl rfl rfl <| .pick (.no rfl) rfl rfl rfl rfl rfl <| .moveB (.no rfl) rfl rfl rfl rfl fun b7 g1_10 => ?_
   cases b7
   ·skip
    refine .fieldAddrP (.on rfl rfl rfl rfl rfl) rfl t27 rfl rfl t25 rfl rfl rfl rfl <| .load (.on rfl rfl rfl rfl rfl) rfl t25 rfl rfl (.ptr _ _ _ _ _ rfl) rfl rfl rfl rfl <| .len (.on rfl rfl rfl rfl rfl) rfl (z := (d.arrays.length : Int)) t25 rfl rfl rfl (.d _ _) (map_len _ _) rfl <| .bin (.on rfl rfl rfl rfl rfl) rfl rfl rfl rfl rfl rfl <| .pick (.no rfl) rfl rfl rfl rfl rfl ?_
    exact .fin () (.of (.cons rfl (.cons (svB (show (decide ((d.arrays.length : Int) > 2)) = (((decide ((d.vars.length : Int) > 5) || decide ((d.flags.length : Int) > 3)) || decide ((d.arrays.length : Int) > 2))) by first | (simp only [g1_4, g1_10, Bool.true_or, Bool.false_or, Bool.true_and, Bool.false_and, Bool.not_true, Bool.not_false]; done) | simp [g1_4, g1_10])) .nil)) (.r rfl))
   ·skip
    refine .off rfl rfl rfl rfl rfl rfl rfl <| .off rfl rfl rfl rfl rfl rfl rfl <| .off rfl rfl rfl rfl rfl rfl rfl <| .off rfl rfl rfl rfl rfl rfl rfl <| .pick (.no rfl) rfl rfl rfl rfl rfl ?_
    exact .fin () (.of (.cons rfl (.cons (svB (show (true) = (((decide ((d.vars.length : Int) > 5) || decide ((d.flags.length : Int) > 3)) || decide ((d.arrays.length : Int) > 2))) by first | (simp only [g1_4, g1_10, Bool.true_or, Bool.false_or, Bool.true_and, Bool.false_and, Bool.not_true, Bool.not_false]; done) | simp [g1_4, g1_10])) .nil)) (.r rfl))
  ·skip
   refine .off rfl rfl rfl rfl rfl rfl rfl <| .off rfl rfl rfl rfl rfl rfl rfl <| .off rfl rfl rfl rfl rfl rfl rfl <| .off rfl rfl rfl rfl rfl rfl rfl <| .pick (.no rfl) rfl rfl rfl rfl rfl <| .move (.no rfl) rfl rfl rfl rfl <| .off rfl rfl rfl rfl rfl rfl rfl <| .off rfl rfl rfl rfl rfl rfl rfl <| .off rfl rfl rfl rfl rfl rfl rfl ?_
   refine .off rfl rfl rfl rfl rfl rfl rfl <| .pick (.no rfl) rfl rfl rfl rfl rfl ?_
   exact .fin () (.of (.cons rfl (.cons (svB (show (true) = (((decide ((d.vars.length : Int) > 5) || decide ((d.flags.length : Int) > 3)) || decide ((d.arrays.length : Int) > 2))) by first | (simp only [g1_4, Bool.true_or, Bool.false_or, Bool.true_and, Bool.false_and, Bool.not_true, Bool.not_false]; done) | simp [g1_4])) .nil)) (.r rfl))
 intro _
 refine .cond (t := ((decide ((d.vars.length : Int) > 5) || decide ((d.flags.length : Int) > 3)) || decide ((d.arrays.length : Int) > 2))) rfl (fun c0 => ?_) (fun c0 => ?_)
 ·have c0 := (oT (oT dT dT) dT) c0
  refine .seq <| .rs fun k8 => .as rfl <| .z <| .ret ?_
  exact fin0 (.inr rfl) (.one (svB (show (false) = (Decl.ok d) by exact (Decl.ok_ne (by omega)).symm)) .nil) (.dd .nil) rfl
 ·have c0 := (oF (oF dF dF) dF) c0
  refine .skip <| .seq ?_
  refine .regD (X := Nat) (by kernel_rfl) (fun ζ => .of [(1, .one (.ptr [1] (k4) 0)), (3, .one (.ref [22] (ζ)))] [([1], (k4, k4, .box [.d (.sl false 9 1 (List.map strc (d.vars))), .d (.sl false 9 1 (List.map strc (d.flags))), .d (.sl false 48 2 (List.map Arr.c (d.arrays)))])), ([22], (ζ, ζ, .row 9 1 (List.map strc (d.vars ++ d.flags))))]) [⟨[], some 22, [], [[22]]⟩, ⟨[1], some 23, [], []⟩, ⟨[23], some 24, [[1]], []⟩, ⟨[22, 24], some 25, [[22]], [[22]]⟩, ⟨[1], some 26, [], []⟩, ⟨[26], some 27, [[1]], []⟩, ⟨[25, 27], some 28, [[22]], [[22]]⟩, ⟨[28], some 3, [], []⟩] (by kernel_rfl) (fun k10 => ?_) ?_
  ·skip
   refine .buildSlice (.no rfl) rfl (els := []) t24 rfl z9 rfl rfl rfl rfl rfl rfl rfl rfl (by simp [i9]) .nil rfl rfl rfl <| .fieldAddrP (.no rfl) rfl t27 rfl rfl t24 rfl rfl rfl rfl <| .load (.no rfl) rfl t24 rfl rfl (.ptr _ _ _ _ _ rfl) rfl rfl rfl rfl <| .append (.no rfl) rfl (l3 := List.map strc (d.vars)) t24 rfl z9 rfl rfl rfl rfl rfl rfl rfl rfl (.ref _ _ _ _ rfl) (.ro _ _) rfl (by simp [i9]; omega) (List.nil_append _) rfl rfl <| .fieldAddrP (.no rfl) rfl t27 rfl rfl t24 rfl rfl rfl rfl <| .load (.no rfl) rfl t24 rfl rfl (.ptr _ _ _ _ _ rfl) rfl rfl rfl rfl <| .append (.no rfl) rfl (l3 := List.map strc (d.vars ++ d.flags)) t24 rfl z9 rfl rfl rfl rfl rfl rfl rfl rfl (.ref _ _ _ _ rfl) (.ro _ _) rfl (by simp [i9]; omega) (map_app _ _ _) rfl rfl <| .assign (.no rfl) rfl rfl rfl rfl ?_
   exact .fin (k10 + 1 + 1 + 1 + 1 + 1 + 1) (.of (.r rfl) (.r rfl))
  intro g11
  refine .seq <| .seq <| .rs fun k12 => .as rfl <| .z <| .block ?_
  refine .loop (X := Nat × Nat × Nat) (fun ζ => .of [(1, .one (.ptr [1] (k4) 0)), (3, .one (.ref [22] (ζ.2.1))), (4, .one (.d (.v (.int .i64 ((ζ.1 : Int))))))] [([1], (k4, k4, .box [.d (.sl false 9 1 (List.map strc (d.vars))), .d (.sl false 9 1 (List.map strc (d.flags))), .d (.sl false 48 2 (List.map Arr.c (d.arrays)))])), ([22], (ζ.2.1, ζ.2.2, .row 9 1 (List.map strc (d.vars ++ d.flags ++ (d.arrays.take ζ.1).map Arr.name))))]) (fun ζ => ζ.1 ≤ d.arrays.length ∧ allTo ζ.1 (fun i => inR (d.arrays.getD i default).size 1 16) = true) (fun ζ => d.arrays.length - ζ.1) ?_ ?_
  ·skip
   exact .here (0, g11, g11) (.of (.cons rfl (.cons rfl (.cons (svI (show (0) = ((0 : Int)) by first | rfl | omega | exact wrap_le (by omega) (by omega) | (rw [wrap_le (by omega) (by omega)]; omega))) .nil))) (.cons rfl (.cons (rowE (show List.map strc (d.vars ++ d.flags) = List.map strc (d.vars ++ d.flags ++ (d.arrays.take 0).map Arr.name) by first | (simp; done) | (rw [List.append_assoc (d.vars ++ d.flags), take_step (f := Arr.name) (by omega)]) | (simp only [Decl.names]; rw [List.take_of_length_le (by omega)]))) .nil))) (show 0 ≤ d.arrays.length ∧ allTo 0 (fun i => inR (d.arrays.getD i default).size 1 16) = true by exact ⟨by omega, rfl⟩)
  ·rintro ⟨j, q13, q14⟩ hI
   have hI : j ≤ d.arrays.length ∧ allTo j (fun i => inR (d.arrays.getD i default).size 1 16) = true := hI
   dsimp only
   refine .seq <| .seq <| .rs fun k15 => .mv rfl <| .fp t27 t25 rfl <| .ld t25 rfl (.ptr _ _ _ _ _ rfl) rfl <| .g (fun _ τ => ⟨_, .len (.no rfl) rfl (z := (d.arrays.length : Int)) t25 rfl rfl rfl (.d _ _) (map_len _ _) rfl τ⟩) <| .bi rfl <| .z ?_
   refine .cond (t := decide ((j : Int) < (d.arrays.length : Int))) rfl (fun c1 => ?_) (fun c1 => ?_)
   ·have c1 := of_decide_eq_true c1
    refine .skip <| .seq <| .block <| .seq <| .seq <| .rs fun k16 => .fp t27 t25 rfl <| .ld t25 rfl (.ptr _ _ _ _ _ rfl) rfl <| .mv rfl ?_
    refine .g (fun _ τ => ⟨_, .indexAddr (.no rfl) rfl (j) t25 rfl t48 rfl rfl rfl (.d _ _) rfl rfl rfl (map_get (by omega)) rfl rfl τ⟩) <| .g (fun _ τ => ⟨_, .fieldAddr (.no rfl) rfl t48 rfl rfl t2 rfl rfl rfl rfl [] (by simp) (by intro _ _ _ h; cases h) rfl rfl τ⟩) <| .ld t2 rfl (.d _) rfl <| .c0 (c_l1In ((d.arrays.getD j default).size) 1 16) rfl (.dd (.dd (.dd .nil))) (.own [42, 0] .nil) rfl <| .un rfl <| .z ?_
    refine .cond (t := !(inR ((d.arrays.getD j default).size) 1 16)) rfl (fun c2 => ?_) (fun c2 => ?_)
    ·have c2 := (nT id) c2
     refine .seq <| .rs fun k17 => .as rfl <| .z <| .ret ?_
     exact fin0 (.inr rfl) (.one (svB (show (false) = (Decl.ok d) by exact (Decl.ok_size (j := j) (by omega) c2).symm)) .nil) (.dd .nil) rfl
    ·have c2 := (nF id) c2
     refine .skip <| .rs fun k19 => .mv rfl <| .fp t27 t25 rfl <| .ld t25 rfl (.ptr _ _ _ _ _ rfl) rfl <| .mv rfl <| .g (fun _ τ => ⟨_, .indexAddr (.no rfl) rfl (j) t25 rfl t48 rfl rfl rfl (.d _ _) rfl rfl rfl (map_get (by omega)) rfl rfl τ⟩) <| .g (fun _ τ => ⟨_, .fieldAddr (.no rfl) rfl t48 rfl rfl t9 rfl rfl rfl rfl [] (by simp) (by intro _ _ _ h; cases h) rfl rfl τ⟩) <| .ld t9 rfl (.d _) rfl ?_
     refine .g (fun _ τ => ⟨_, .buildSlice (.no rfl) rfl (els := [[.v (.string ((d.arrays.getD j default).name))]]) t24 rfl z9 rfl rfl rfl rfl rfl rfl rfl rfl (by simp [i9]) (.cons _ _ _ _ _ _ (.d _) .nil) rfl rfl rfl τ⟩) <| .g (fun _ τ => ⟨_, .append (.no rfl) rfl (l3 := List.map strc (d.vars ++ d.flags ++ (d.arrays.take j).map Arr.name ++ [(d.arrays.getD j default).name])) t24 rfl z9 rfl rfl rfl rfl rfl rfl rfl rfl (.ref _ _ _ _ rfl) (.take _ _ _ _ _ rfl) rfl (by simp [i9]; omega) (map_snoc _ _ _) rfl rfl τ⟩) <| .as rfl <| .z <| .rs fun k20 => .mv rfl <| .bi rfl <| .as rfl <| .z ?_
     exact .here ((j + 1), (k19 + 1 + 1 + 1 + 1 + 1 + 1 + 1 + 1), (k19 + 1 + 1 + 1 + 1 + 1 + 1 + 1 + 1)) (.of (.cons rfl (.cons (by show SV.one (.ref [22] (k19 + 1 + 1 + 1 + 1 + 1 + 1 + 1 + 1)) = SV.one (.ref [22] ((k19 + 1 + 1 + 1 + 1 + 1 + 1 + 1 + 1))); first | rfl | simp_all) (.cons (svI (show (IntKind.wrap .i64 ((j : Int) + 1)) = (((j + 1) : Int)) by first | rfl | omega | exact wrap_le (by omega) (by omega) | (rw [wrap_le (by omega) (by omega)]; omega))) .nil))) (.cons rfl (.cons (rowE (show List.map strc (d.vars ++ d.flags ++ (d.arrays.take j).map Arr.name ++ [(d.arrays.getD j default).name]) = List.map strc (d.vars ++ d.flags ++ (d.arrays.take (j + 1)).map Arr.name) by first | (simp; done) | (rw [List.append_assoc (d.vars ++ d.flags), take_step (f := Arr.name) (by omega)]) | (simp only [Decl.names]; rw [List.take_of_length_le (by omega)]))) .nil))) ⟨(show (j + 1) ≤ d.arrays.length ∧ allTo (j + 1) (fun i => inR (d.arrays.getD i default).size 1 16) = true by exact ⟨by omega, allTo_step hI.2 (by simpa using c2)⟩), (show d.arrays.length - (j + 1) < d.arrays.length - j by omega)⟩
   ·have c1 := of_decide_eq_false c1
    refine .exit <| .seq <| .seq <| .rs fun k21 => .as rfl <| .z <| .block ?_
    refine .loop (X := Nat × Nat × Nat) (fun ζ => .of [(3, .one (.ref [22] (ζ.2.1))), (5, .one (.d (.v (.int .i64 ((ζ.1 : Int))))))] [([22], (ζ.2.1, ζ.2.2, .row 9 1 (List.map strc (Decl.names d))))]) (fun ζ => ζ.1 ≤ (Decl.names d).length ∧ allTo ζ.1 (nameOk (Decl.names d)) = true) (fun ζ => (Decl.names d).length - ζ.1) ?_ ?_
    ·skip
     exact .here (0, q13, q14) (.of (.cons rfl (.cons (svI (show (0) = ((0 : Int)) by first | rfl | omega | exact wrap_le (by omega) (by omega) | (rw [wrap_le (by omega) (by omega)]; omega))) .nil)) (.cons (rowE (show List.map strc (d.vars ++ d.flags ++ (d.arrays.take j).map Arr.name) = List.map strc (Decl.names d) by first | (simp; done) | (rw [List.append_assoc (d.vars ++ d.flags), take_step (f := Arr.name) (by omega)]) | (simp only [Decl.names]; rw [List.take_of_length_le (by omega)]))) .nil)) (show 0 ≤ (Decl.names d).length ∧ allTo 0 (nameOk (Decl.names d)) = true by exact ⟨by omega, rfl⟩)
    ·rintro ⟨i, q22, q23⟩ hI
     have hI : i ≤ (Decl.names d).length ∧ allTo i (nameOk (Decl.names d)) = true := hI
     have hI0 := ‹j ≤ d.arrays.length ∧ _›
     have hn9 : (Decl.names d).length ≤ 3145728 := by simp [Decl.names]; omega
     dsimp only
     refine .seq <| .seq <| .rs fun k24 => .mv rfl <| .mv rfl <| .g (fun _ τ => ⟨_, .len (.no rfl) rfl (z := ((Decl.names d).length : Int)) t24 rfl rfl rfl (.ref _ _ _ _ _ rfl) (map_len _ _) rfl τ⟩) <| .bi rfl <| .z ?_
     refine .cond (t := decide ((i : Int) < ((Decl.names d).length : Int))) rfl (fun c3 => ?_) (fun c3 => ?_)
     ·have c3 := of_decide_eq_true c3
      refine .skip <| .seq <| .block <| .seq ?_
      refine .regD (X := Unit) (by kernel_rfl) (fun ζ => .of [(3, .one (.ref [22] (q22))), (5, .one (.d (.v (.int .i64 ((i : Int)))))), (75, .one (.d (.v (.bool ((!(nmOk ((Decl.names d).getD (i) default)) || decide ((place ((Decl.names d).take i) ((Decl.names d).getD (i) default)) ≥ 0)))))))] [([22], (q22, q23, .row 9 1 (List.map strc (Decl.names d))))]) [⟨[3], some 59, [], []⟩, ⟨[5], some 60, [], []⟩, ⟨[59, 60], some 61, [[22]], []⟩, ⟨[61], some 62, [[22]], []⟩, ⟨[62], some 63, [], []⟩, ⟨[63], some 64, [], []⟩, ⟨[64], some 65, [], []⟩, ⟨[65, 3], some 66, [], []⟩, ⟨[65, 5], some 67, [], []⟩, ⟨[65, 66, 67], some 68, [[22]], []⟩, ⟨[65, 3], some 69, [], []⟩, ⟨[65, 5], some 70, [], []⟩, ⟨[65, 69, 70], some 71, [[22]], []⟩, ⟨[65, 71], some 72, [[22]], []⟩, ⟨[65, 68, 72], some 73, [[22]], []⟩, ⟨[65, 73], some 74, [], []⟩, ⟨[65, 74], some 75, [], []⟩] (by kernel_rfl) (fun k25 => ?_) ?_
      ·skip
       refine .move (.no rfl) rfl rfl rfl rfl <| .move (.no rfl) rfl rfl rfl rfl <| .indexAddr (.no rfl) rfl (i) t24 rfl t9 rfl rfl rfl (.ref _ _ _ _ _ rfl) rfl rfl rfl (map_get (by omega)) rfl rfl <| .load (.no rfl) rfl t9 rfl rfl (.eptr _ _ _ _ _ _ _ _ _ rfl (map_get (by omega))) rfl rfl rfl rfl <| .call (.no rfl) rfl [] [] (c_l3Name ((Decl.names d).getD (i) default) (by exact hs _ (getD_mem (by omega)))) rfl rfl rfl rfl rfl (.dd .nil) rfl rfl (fun h => absurd rfl h) (.own [63, 0] .nil) (.nil) rfl rfl rfl (by simp) rfl rfl rfl <| .un (.no rfl) rfl rfl rfl rfl rfl <| .moveB (.no rfl) rfl rfl rfl rfl fun b26 g13_6 => ?_
       cases b26
       ·skip
        refine .move (.on rfl rfl rfl rfl rfl) rfl rfl rfl rfl <| .move (.on rfl rfl rfl rfl rfl) rfl rfl rfl rfl <| .slice (.on rfl rfl rfl rfl rfl) rfl (lv := 0) (hv := i) (m := q23) t24 rfl t9 rfl rfl (.ref _ _ _ _ _ rfl) rfl (by intro _ _ h; cases h; exact ⟨_, .head _⟩) (by exact rfl) (by exact ⟨_, rfl⟩) (Nat.zero_le _) (le_map (by omega)) rfl rfl <| .move (.on rfl rfl rfl rfl rfl) rfl rfl rfl rfl <| .move (.on rfl rfl rfl rfl rfl) rfl rfl rfl rfl <| .indexAddr (.on rfl rfl rfl rfl rfl) rfl (i) t24 rfl t9 rfl rfl rfl (.ref _ _ _ _ _ rfl) rfl rfl rfl (map_get (by omega)) rfl rfl <| .load (.on rfl rfl rfl rfl rfl) rfl t9 rfl rfl (.eptr _ _ _ _ _ _ _ _ _ rfl (map_get (by omega))) rfl rfl rfl rfl ?_
        refine .call (.on rfl rfl rfl rfl rfl) rfl [[22]] [([22], (q22, q23, .row 9 1 (List.map strc (Decl.names d))))] (c_l3Place ((Decl.names d).take i) ((Decl.names d).getD (i) default)) rfl rfl rfl rfl rfl (.cons (Reads.cut (Frz.of_erase (erase_takeo _ _ _ _ _ _ strc_e)) (le_map (by omega)) (.head _) (.head _)).gives (.dd .nil)) rfl rfl (fun _ => (ownCons (Owned.v _) ownNil)) (.own [73, 0] .nil) (.nil) rfl rfl rfl (AllH.get (.r rfl)) rfl rfl rfl <| .bin (.on rfl rfl rfl rfl rfl) rfl rfl rfl rfl rfl rfl <| .pick (.no rfl) rfl rfl rfl rfl rfl ?_
        exact .fin () (.of (.cons rfl (.cons rfl (.cons (svB (show (decide ((place ((Decl.names d).take i) ((Decl.names d).getD (i) default)) ≥ 0)) = ((!(nmOk ((Decl.names d).getD (i) default)) || decide ((place ((Decl.names d).take i) ((Decl.names d).getD (i) default)) ≥ 0))) by first | (simp only [g13_6, Bool.true_or, Bool.false_or, Bool.true_and, Bool.false_and, Bool.not_true, Bool.not_false]; done) | simp [g13_6])) .nil))) (.r rfl))
       ·skip
        refine .off rfl rfl rfl rfl rfl rfl rfl <| .off rfl rfl rfl rfl rfl rfl rfl <| .off rfl rfl rfl rfl rfl rfl rfl <| .off rfl rfl rfl rfl rfl rfl rfl <| .off rfl rfl rfl rfl rfl rfl rfl <| .off rfl rfl rfl rfl rfl rfl rfl <| .off rfl rfl rfl rfl rfl rfl rfl <| .off rfl rfl rfl rfl rfl rfl rfl <| .off rfl rfl rfl rfl rfl rfl rfl ?_
        refine .pick (.no rfl) rfl rfl rfl rfl rfl ?_
        exact .fin () (.of (.cons rfl (.cons rfl (.cons (svB (show (true) = ((!(nmOk ((Decl.names d).getD (i) default)) || decide ((place ((Decl.names d).take i) ((Decl.names d).getD (i) default)) ≥ 0))) by first | (simp only [g13_6, Bool.true_or, Bool.false_or, Bool.true_and, Bool.false_and, Bool.not_true, Bool.not_false]; done) | simp [g13_6])) .nil))) (.r rfl))
      intro _
      refine .cond (t := (!(nmOk ((Decl.names d).getD (i) default)) || decide ((place ((Decl.names d).take i) ((Decl.names d).getD (i) default)) ≥ 0))) rfl (fun c4 => ?_) (fun c4 => ?_)
      ·have c4 := (oT (nT id) dT) c4
       refine .seq <| .rs fun k27 => .as rfl <| .z <| .ret ?_
       exact fin0 (.inr rfl) (.one (svB (show (false) = (Decl.ok d) by exact (Decl.ok_name (j := i) (by omega) c4).symm)) .nil) (.dd .nil) rfl
      ·have c4 := (oF (nF id) dF) c4
       refine .skip <| .rs fun k29 => .mv rfl <| .bi rfl <| .as rfl <| .z ?_
       exact .here ((i + 1), q22, q23) (.of (.cons rfl (.cons (svI (show (IntKind.wrap .i64 ((i : Int) + 1)) = (((i + 1) : Int)) by first | rfl | omega | exact wrap_le (by omega) (by omega) | (rw [wrap_le (by omega) (by omega)]; omega))) .nil)) (.r rfl)) ⟨(show (i + 1) ≤ (Decl.names d).length ∧ allTo (i + 1) (nameOk (Decl.names d)) = true by exact ⟨by omega, allTo_step hI.2 (nameOk_of c4)⟩), (show (Decl.names d).length - (i + 1) < (Decl.names d).length - i by omega)⟩
     ·have c3 := of_decide_eq_false c3
      refine .exit <| .seq <| .rs fun k30 => .as rfl <| .z <| .ret ?_
      exact fin0 (.inr rfl) (.one (svB (show (true) = (Decl.ok d) by exact (Decl.ok_done (by omega) hI0.2 (by omega) (j := i) (by omega) hI.2).symm)) .nil) (.dd .nil) rfl
end Go.Proofs

namespace Go.Proofs
open Go Go.Proofs Go.Ev

theorem c_sEnvOk (d : Decl) (e : Env) (hs : ∀ x ∈ Decl.names d, x.size ≤ 9223372036854775807) (hb : d.vars.length ≤ 1048576 ∧ d.flags.length ≤ 1048576 ∧ d.arrays.length ≤ 1048576) (he : e.ints.length ≤ 1048576 ∧ e.arrs.length ≤ 1048576) : Trip Tryd.prog 11 [(true, 3), (true, 3)] (Decl.c27 d ++ Env.c30 e) [(false, 1)] [.v (.bool (Decl.ok d && Env.okIn d e))] [] := by
 refine Trip.of Tryd.func11 (by decide) (c := _) rfl rfl (Nat.le_of_ble_eq_true rfl) rfl (AftOk.nil _) <| .sla (t := 0) 0 rfl rfl fun hs1l => .sla (t := 0) 1 rfl rfl fun hs2l => .sla (t := 0) 2 rfl rfl fun hs3l => .sla (t := 1) 1 rfl rfl fun hs4l => .sla (t := 1) 2 rfl rfl fun hs5l => .seq <| .rs fun k6 => .g (fun _ τ => ⟨_, .box (.no rfl) rfl rfl rfl rfl rfl τ⟩) ?_
 refine .g (fun _ τ => ⟨_, .box (.no rfl) rfl rfl rfl rfl rfl τ⟩) <| .as rfl <| .z <| .seq <| .seq <| .rs fun k7 => .lda t27 rfl (.ptr _ _ _ _ _ rfl) rfl <| .c0 (c_sDeclOk d (by first | assumption | omega) (by first | assumption | omega)) rfl (.dd (.dd (.dd .nil))) (.own [8, 0] .nil) rfl <| .un rfl ?_
 refine .z ?_
 refine .cond (t := !(Decl.ok d)) rfl (fun c0 => ?_) (fun c0 => ?_)
 ·have c0 := (nT id) c0
  refine .seq <| .rs fun k8 => .as rfl <| .z <| .ret ?_
  exact fin0 (.inr rfl) (.one (svB (show (false) = (Decl.ok d && Env.okIn d e) by simp [c0])) .nil) (.dd .nil) rfl
 ·have c0 := (nF id) c0
  refine .skip <| .seq <| .seq <| .rs fun k10 => .fp t30 t4 rfl <| .ld t4 rfl (.ptr _ _ _ _ _ rfl) rfl <| .un rfl <| .z ?_
  refine .cond (t := !e.live) rfl (fun c1 => ?_) (fun c1 => ?_)
  ·have c1 := (nT id) c1
   refine .seq ?_
   refine .reg (X := Unit) (fun ζ => .of [(4, .one (.d (.v (.bool (((e.ints.length : Int) == 0 && (e.arrs.length : Int) == 0))))))] []) [⟨[3], some 13, [], []⟩, ⟨[13], some 14, [[3]], []⟩, ⟨[14], some 15, [], []⟩, ⟨[15], some 16, [], []⟩, ⟨[16], some 17, [], []⟩, ⟨[17, 3], some 18, [], []⟩, ⟨[17, 18], some 19, [[3]], []⟩, ⟨[17, 19], some 20, [], []⟩, ⟨[17, 20], some 21, [], []⟩, ⟨[17, 21], some 22, [], []⟩, ⟨[22], some 4, [], []⟩] (fun k11 => ?_) ?_
   ·skip
    refine .fieldAddrP (.no rfl) rfl t30 rfl rfl t28 rfl rfl rfl rfl <| .load (.no rfl) rfl t28 rfl rfl (.ptr _ _ _ _ _ rfl) rfl rfl rfl rfl <| .len (.no rfl) rfl (z := (e.ints.length : Int)) t28 rfl rfl rfl (.d _ _) (map_len _ _) rfl <| .bin (.no rfl) rfl rfl rfl rfl rfl rfl <| .moveB (.no rfl) rfl rfl rfl rfl fun b12 g4_4 => ?_
    cases b12
    ·skip
     refine .off rfl rfl rfl rfl rfl rfl rfl <| .off rfl rfl rfl rfl rfl rfl rfl <| .off rfl rfl rfl rfl rfl rfl rfl <| .off rfl rfl rfl rfl rfl rfl rfl <| .pick (.no rfl) rfl rfl rfl rfl rfl <| .assign (.no rfl) rfl rfl rfl rfl ?_
     exact .fin () (.of (.cons (svB (show (false) = (((e.ints.length : Int) == 0 && (e.arrs.length : Int) == 0)) by first | (simp only [g4_4, Bool.true_or, Bool.false_or, Bool.true_and, Bool.false_and, Bool.not_true, Bool.not_false]; done) | simp [g4_4])) .nil) .nil)
    ·skip
     refine .fieldAddrP (.on rfl rfl rfl rfl rfl) rfl t30 rfl rfl t28 rfl rfl rfl rfl <| .load (.on rfl rfl rfl rfl rfl) rfl t28 rfl rfl (.ptr _ _ _ _ _ rfl) rfl rfl rfl rfl <| .len (.on rfl rfl rfl rfl rfl) rfl (z := (e.arrs.length : Int)) t28 rfl rfl rfl (.d _ _) (map_len _ _) rfl <| .bin (.on rfl rfl rfl rfl rfl) rfl rfl rfl rfl rfl rfl <| .pick (.no rfl) rfl rfl rfl rfl rfl <| .assign (.no rfl) rfl rfl rfl rfl ?_
     exact .fin () (.of (.cons (svB (show ((e.arrs.length : Int) == 0) = (((e.ints.length : Int) == 0 && (e.arrs.length : Int) == 0)) by first | (simp only [g4_4, Bool.true_or, Bool.false_or, Bool.true_and, Bool.false_and, Bool.not_true, Bool.not_false]; done) | simp [g4_4])) .nil) .nil)
   intro _
   refine .ret ?_
   exact fin0 (.inr rfl) (.one (svB (show (((e.ints.length : Int) == 0 && (e.arrs.length : Int) == 0)) = (Decl.ok d && Env.okIn d e) by simp [c0, c1, Env.okIn])) .nil) (.dd .nil) rfl
  ·have c1 := (nF id) c1
   refine .skip <| .seq <| .seq ?_
   refine .reg (X := Unit) (fun ζ => .of [(3, .one (.ptr [3] (k6 + 1) 0)), (38, .one (.d (.v (.bool (((e.ints.length : Int) != (d.vars.length : Int) || (e.arrs.length : Int) != (d.arrays.length : Int)))))))] [([3], (k6 + 1, k6 + 1, .box [.d (.v (.bool (e.live))), .d (.sl false 32 2 (List.map Iv.c (e.ints))), .d (.sl false 32 2 (List.map Iv.c (e.arrs)))]))]) [⟨[3], some 23, [], []⟩, ⟨[23], some 24, [[3]], []⟩, ⟨[24], some 25, [], []⟩, ⟨[2], some 26, [], []⟩, ⟨[26], some 27, [[2]], []⟩, ⟨[27], some 28, [], []⟩, ⟨[25, 28], some 29, [], []⟩, ⟨[29], some 30, [], []⟩, ⟨[30, 3], some 31, [], []⟩, ⟨[30, 31], some 32, [[3]], []⟩, ⟨[30, 32], some 33, [], []⟩, ⟨[30, 2], some 34, [], []⟩, ⟨[30, 34], some 35, [[2]], []⟩, ⟨[30, 35], some 36, [], []⟩, ⟨[30, 33, 36], some 37, [], []⟩, ⟨[30, 37], some 38, [], []⟩] (fun k14 => ?_) ?_
   ·skip
    refine .fieldAddrP (.no rfl) rfl t30 rfl rfl t28 rfl rfl rfl rfl <| .load (.no rfl) rfl t28 rfl rfl (.ptr _ _ _ _ _ rfl) rfl rfl rfl rfl <| .len (.no rfl) rfl (z := (e.ints.length : Int)) t28 rfl rfl rfl (.d _ _) (map_len _ _) rfl <| .fieldAddrP (.no rfl) rfl t27 rfl rfl t24 rfl rfl rfl rfl <| .load (.no rfl) rfl t24 rfl rfl (.ptr _ _ _ _ _ rfl) rfl rfl rfl rfl <| .len (.no rfl) rfl (z := (d.vars.length : Int)) t24 rfl rfl rfl (.d _ _) (map_len _ _) rfl <| .bin (.no rfl) rfl rfl rfl rfl rfl rfl <| .moveB (.no rfl) rfl rfl rfl rfl fun b15 g5_7 => ?_
    cases b15
    ·skip
     refine .fieldAddrP (.on rfl rfl rfl rfl rfl) rfl t30 rfl rfl t28 rfl rfl rfl rfl <| .load (.on rfl rfl rfl rfl rfl) rfl t28 rfl rfl (.ptr _ _ _ _ _ rfl) rfl rfl rfl rfl <| .len (.on rfl rfl rfl rfl rfl) rfl (z := (e.arrs.length : Int)) t28 rfl rfl rfl (.d _ _) (map_len _ _) rfl <| .fieldAddrP (.on rfl rfl rfl rfl rfl) rfl t27 rfl rfl t25 rfl rfl rfl rfl <| .load (.on rfl rfl rfl rfl rfl) rfl t25 rfl rfl (.ptr _ _ _ _ _ rfl) rfl rfl rfl rfl <| .len (.on rfl rfl rfl rfl rfl) rfl (z := (d.arrays.length : Int)) t25 rfl rfl rfl (.d _ _) (map_len _ _) rfl <| .bin (.on rfl rfl rfl rfl rfl) rfl rfl rfl rfl rfl rfl <| .pick (.no rfl) rfl rfl rfl rfl rfl ?_
     exact .fin () (.of (.cons rfl (.cons (svB (show ((e.arrs.length : Int) != (d.arrays.length : Int)) = (((e.ints.length : Int) != (d.vars.length : Int) || (e.arrs.length : Int) != (d.arrays.length : Int))) by first | (simp only [g5_7, Bool.true_or, Bool.false_or, Bool.true_and, Bool.false_and, Bool.not_true, Bool.not_false]; done) | simp [g5_7])) .nil)) (.r rfl))
    ·skip
     refine .off rfl rfl rfl rfl rfl rfl rfl <| .off rfl rfl rfl rfl rfl rfl rfl <| .off rfl rfl rfl rfl rfl rfl rfl <| .off rfl rfl rfl rfl rfl rfl rfl <| .off rfl rfl rfl rfl rfl rfl rfl <| .off rfl rfl rfl rfl rfl rfl rfl <| .off rfl rfl rfl rfl rfl rfl rfl <| .pick (.no rfl) rfl rfl rfl rfl rfl ?_
     exact .fin () (.of (.cons rfl (.cons (svB (show (true) = (((e.ints.length : Int) != (d.vars.length : Int) || (e.arrs.length : Int) != (d.arrays.length : Int))) by first | (simp only [g5_7, Bool.true_or, Bool.false_or, Bool.true_and, Bool.false_and, Bool.not_true, Bool.not_false]; done) | simp [g5_7])) .nil)) (.r rfl))
   intro _
   refine .cond (t := ((e.ints.length : Int) != (d.vars.length : Int) || (e.arrs.length : Int) != (d.arrays.length : Int))) rfl (fun c2 => ?_) (fun c2 => ?_)
   ·have c2 := (oT bT bT) c2
    refine .seq <| .rs fun k16 => .as rfl <| .z <| .ret ?_
    exact fin0 (.inr rfl) (.one (svB (show (false) = (Decl.ok d && Env.okIn d e) by simp only [c0, Env.okIn, c1]; simp; omega)) .nil) (.dd .nil) rfl
   ·have c2 := (oF bF bF) c2
    refine .skip <| .seq <| .rs fun k18 => .lda t30 rfl (.ptr _ _ _ _ _ rfl) rfl <| .c0 (c_l6List e (by first | assumption | omega)) rfl (.dd (.dd (.dd .nil))) (.frz [40, 0] (Frz.of_erase (erase_slo _ _ _ _ _ _ Iv.c_e)) .nil) rfl <| .as rfl <| .z <| .seq <| .seq ?_
    refine .rs fun k19 => .as rfl <| .z <| .block ?_
    refine .loop (X := Nat) (fun ζ => .of [(5, .one (.d (.sl false 32 2 (List.map Iv.c (e.ints ++ e.arrs))))), (6, .one (.d (.v (.int .i64 ((ζ : Int))))))] []) (fun ζ => ζ ≤ (e.ints ++ e.arrs).length ∧ allTo ζ (fun x => Iv.ok ((e.ints ++ e.arrs).getD x default)) = true) (fun ζ => (e.ints ++ e.arrs).length - ζ) ?_ ?_
    ·skip
     exact .here 0 (.of (.cons rfl (.cons (svI (show (0) = ((0 : Int)) by first | rfl | omega | exact wrap_le (by omega) (by omega) | (rw [wrap_le (by omega) (by omega)]; omega))) .nil)) .nil) (show 0 ≤ (e.ints ++ e.arrs).length ∧ allTo 0 (fun x => Iv.ok ((e.ints ++ e.arrs).getD x default)) = true by exact ⟨by omega, rfl⟩)
    ·rintro j hI
     have hI : j ≤ (e.ints ++ e.arrs).length ∧ allTo j (fun x => Iv.ok ((e.ints ++ e.arrs).getD x default)) = true := hI
     have hn9 : (e.ints ++ e.arrs).length ≤ 3145728 := by simp; omega
     refine .seq <| .seq <| .rs fun k20 => .mv rfl <| .mv rfl <| .g (fun _ τ => ⟨_, .len (.no rfl) rfl (z := ((e.ints ++ e.arrs).length : Int)) t28 rfl rfl rfl (.d _ _) (map_len _ _) rfl τ⟩) <| .bi rfl <| .z ?_
     refine .cond (t := decide ((j : Int) < ((e.ints ++ e.arrs).length : Int))) rfl (fun c3 => ?_) (fun c3 => ?_)
     ·have c3 := of_decide_eq_true c3
      refine .skip <| .seq <| .block <| .seq <| .rs fun k21 => .mv rfl <| .mv rfl <| .g (fun _ τ => ⟨_, .indexAddr (.no rfl) rfl (j) t28 rfl t32 rfl rfl rfl (.d _ _) rfl rfl rfl (map_get (by omega)) rfl rfl τ⟩) <| .lda t32 rfl (.d _) rfl ?_
      refine .c0 (c_sIvOk ((e.ints ++ e.arrs).getD (j) default)) rfl (.dd (.dd .nil)) (.own [51, 0] .nil) rfl <| .un rfl <| .z ?_
      refine .cond (t := !(Iv.ok ((e.ints ++ e.arrs).getD (j) default))) rfl (fun c4 => ?_) (fun c4 => ?_)
      ·have c4 := (nT id) c4
       refine .seq <| .rs fun k22 => .as rfl <| .z <| .ret ?_
       exact fin0 (.inr rfl) (.one (svB (show (false) = (Decl.ok d && Env.okIn d e) by simp only [c0, Env.okIn, c1, all_none (p := Iv.ok) (j := j) (by omega) c4]; simp)) .nil) (.dd .nil) rfl
      ·have c4 := (nF id) c4
       refine .skip <| .rs fun k24 => .mv rfl <| .bi rfl <| .as rfl <| .z ?_
       exact .here (j + 1) (.of (.cons rfl (.cons (svI (show (IntKind.wrap .i64 ((j : Int) + 1)) = (((j + 1) : Int)) by first | rfl | omega | exact wrap_le (by omega) (by omega) | (rw [wrap_le (by omega) (by omega)]; omega))) .nil)) .nil) ⟨(show (j + 1) ≤ (e.ints ++ e.arrs).length ∧ allTo (j + 1) (fun x => Iv.ok ((e.ints ++ e.arrs).getD x default)) = true by exact ⟨by omega, allTo_step hI.2 c4⟩), (show (e.ints ++ e.arrs).length - (j + 1) < (e.ints ++ e.arrs).length - j by omega)⟩
     ·have c3 := of_decide_eq_false c3
      refine .exit <| .seq <| .rs fun k25 => .as rfl <| .z <| .ret ?_
      exact fin0 (.inr rfl) (.one (svB (show (true) = (Decl.ok d && Env.okIn d e) by simp only [c0, Env.okIn, c1, all_done (p := Iv.ok) (j := j) (by omega) hI.2]; simp; omega)) .nil) (.dd .nil) rfl
end Go.Proofs

namespace Go.Proofs
open Go Go.Proofs Go.Ev

def slc24 (x : List ByteArray) : List D := [.sl false 9 1 (List.map strc (x))]
theorem slc24_e (x : List ByteArray) : (slc24 x).map D.erase = slc24 x := by simp [slc24, erase_slo _ _ _ _ _ _ strc_e]
def slco24 (x : List ByteArray) : List D := [.sl true 9 1 (List.map strc (x))]
theorem slco24_e (x : List ByteArray) : (slco24 x).map D.erase = slc24 x := by simp [slco24, slc24, erase_slo _ _ _ _ _ _ strc_e]
theorem slco24_o (x : List ByteArray) : ∀ d ∈ slco24 x, Owned d := by simp [slco24, Owned.map _ _ _ _ strc_o]
def i3 : TI := ⟨.int .i64, 1, 8, [.int .i64 0]⟩
theorem t3 : TyOk Tryd.prog 3 i3 := ⟨Tryd.underlying3, by kernel_rfl⟩
theorem z3 : ZOk Tryd.prog 3 i3 := ⟨t3, rfl⟩
def i155 : TI := ⟨.sl 24, 1, 24, [.slice none 0 0]⟩
theorem t155 : TyOk Tryd.prog 155 i155 := ⟨Tryd.underlying155, by kernel_rfl⟩
theorem z155 : ZOk Tryd.prog 155 i155 := ⟨t155, rfl⟩
theorem c_Grow (n : Nat) (hn : n ≤ 4194304) : Trip Tryd.prog 135 [(false, 1), (false, 1)] ([.v (.slice none 0 0)] ++ [.v (.int .i64 ((n : Int)))]) [(false, 1)] [.sl true 9 1 ([])] [] := by
 refine Trip.of Tryd.func135 (by decide) (c := _) rfl rfl (Nat.le_of_ble_eq_true rfl) rfl (AftOk.nil _) <| .seq <| .rs fun k1 => .as rfl <| .z <| .seq <| .seq <| .rs fun k2 => .mv rfl ?_
 refine .bi rfl <| .z ?_
 refine .cond (t := decide ((n : Int) < 0)) rfl (fun c0 => ?_) (fun c0 => ?_)
 ·have c0 := of_decide_eq_true c0
  exfalso; omega
 ·have c0 := of_decide_eq_false c0
  refine .skip <| .seq <| .seq <| .rs fun k3 => .mv rfl <| .mv rfl <| .g (fun _ τ => ⟨_, .capNil (.no rfl) rfl t24 rfl rfl rfl rfl τ⟩) <| .mv rfl <| .g (fun _ τ => ⟨_, .len (.no rfl) rfl (z := 0) t24 rfl rfl rfl (sz := 1) .nil rfl rfl τ⟩) ?_
  refine .bi (v := .int .i64 (0)) rfl <| .bi rfl <| .as rfl <| .z <| .seq <| .rs fun k4 => .mv rfl <| .bi rfl <| .z ?_
  refine .cond (t := decide ((IntKind.wrap .i64 ((n : Int) - 0)) > 0)) rfl (fun c1 => ?_) (fun c1 => ?_)
  ·have c1 := of_decide_eq_true c1
   refine .rs fun k5 => .mv rfl <| .mv rfl <| .g (fun _ τ => ⟨_, .capNil (.no rfl) rfl t24 rfl rfl rfl rfl τ⟩) <| .g (fun _ τ => ⟨_, .sliceNil (.no rfl) rfl t24 rfl t9 rfl rfl (by exact rfl) (by exact ⟨_, rfl⟩) rfl τ⟩) <| .mv rfl <| .g (fun _ τ => ⟨_, .growNil (.no rfl) rfl (n0 := n) (els := List.map strc (List.replicate n .empty)) t24 rfl t3 rfl z9 rfl rfl rfl rfl rfl rfl (by exact (wrap_le (by omega) (by omega)).trans (by omega)) (by (rw [wrap_le (by omega) (by omega)] at c1; omega)) (by simp [i9]; omega) (by omega) (rep_map _ _ _ rfl) rfl τ⟩) <| .mv rfl <| .g (fun _ τ => ⟨_, .len (.no rfl) rfl (z := 0) t24 rfl rfl rfl (sz := 1) .nil rfl rfl τ⟩) ?_
   refine .g (fun _ τ => ⟨_, .slice (.no rfl) rfl (lv := 0) (hv := 0) (m := k5 + 1 + 1 + 1 + 1 + 1) t24 rfl t9 rfl rfl (.ref _ _ _ _ _ rfl) rfl (by intro _ _ h; cases h; exact ⟨_, .head _⟩) (by exact rfl) (by exact ⟨_, rfl⟩) (Nat.zero_le _) (Nat.zero_le _) rfl rfl τ⟩) <| .as rfl <| .z <| .seq <| .rs fun k6 => .mv rfl <| .as rfl <| .z <| .ret ?_
   exact fin1 (.inr rfl) [] [([22], (k5 + 1 + 1 + 1 + 1 + 1, k5 + 1 + 1 + 1 + 1 + 1, .row 9 1 (List.map strc (List.replicate n .empty))))] (.one rfl .nil) (.cons (.cut0 (.head _)) .nil) rfl rfl (.r rfl)
  ·have c1 := of_decide_eq_false c1
   refine .skip <| .seq <| .rs fun k7 => .mv rfl <| .as rfl <| .z <| .ret ?_
   exact fin0 (.inr rfl) (.one rfl .nil) (.cons (Gives.nil' (by first | rfl | simp_all)) .nil) rfl
theorem c_Concat (l : List (List ByteArray)) (hb : lens l ≤ 4194304 ∧ l.length ≤ 1048576) : Trip Tryd.prog 122 [(false, 1)] ([.sl false 24 1 (List.map slc24 (l))]) [(false, 1)] [.sl true 9 1 (List.map strc (l.flatten))] [] := by
 refine Trip.of Tryd.func122 (by decide) (c := _) rfl rfl (Nat.le_of_ble_eq_true rfl) rfl (AftOk.nil _) <| .sl (t := 0) rfl fun hs1l => .seq <| .rs fun k2 => .as rfl <| .z <| .seq <| .rs fun k3 => .as rfl ?_
 refine .z <| .seq <| .seq <| .rs fun k4 => .mv rfl <| .g (fun _ τ => ⟨_, .len (.no rfl) rfl (z := (l.length : Int)) t155 rfl rfl rfl (.d _ _) (map_len _ _) rfl τ⟩) <| .mv rfl <| .z <| .block ?_
 refine .loop (X := Nat) (fun ζ => .of [(0, .one (.d (.sl false 24 1 (List.map slc24 (l))))), (3, .one (.d (.v (.int .i64 ((lens (l.take ζ) : Int)))))), (9, .one (.d (.sl false 24 1 (List.map slc24 (l))))), (10, .one (.d (.v (.int .i64 ((l.length : Int)))))), (11, .one (.d (.v (.int .i64 ((ζ : Int))))))] []) (fun ζ => ζ ≤ l.length) (fun ζ => l.length - ζ) ?_ ?_
 ·skip
  exact .here 0 (.of (.cons rfl (.cons (svI (show (0) = ((lens (l.take 0) : Int)) by first | rfl | omega | exact wrap_le (by omega) (by omega) | (rw [wrap_le (by omega) (by omega)]; omega))) (.cons rfl (.cons rfl (.cons (svI (show (0) = ((0 : Int)) by first | rfl | omega | exact wrap_le (by omega) (by omega) | (rw [wrap_le (by omega) (by omega)]; omega))) .nil))))) .nil) (show 0 ≤ l.length by omega)
 ·rintro j hI
  have hI : j ≤ l.length := hI
  have hs9 := lens_take l j
  have hs8 := lens_le l (j + 1)
  have hs7 := lens_le l j
  refine .seq <| .rs fun k5 => .bi rfl <| .z <| .seq ?_
  refine .cond (t := decide ((j : Int) < (l.length : Int))) rfl (fun c0 => ?_) (fun c0 => ?_)
  ·have c0 := of_decide_eq_true c0
   refine .skip <| .seq <| .block <| .seq <| .rs fun k6 => .g (fun _ τ => ⟨_, .indexAddr (.no rfl) rfl (j) t155 rfl t24 rfl rfl rfl (.d _ _) rfl rfl rfl (map_get (by omega)) rfl rfl τ⟩) <| .ld t24 rfl (.d _) rfl <| .as rfl <| .z ?_
   refine .seq <| .rs fun k7 => .mv rfl <| .mv rfl <| .g (fun _ τ => ⟨_, .len (.no rfl) rfl (z := ((l.getD j default).length : Int)) t24 rfl rfl rfl (.d _ _) (map_len _ _) rfl τ⟩) <| .bi rfl <| .as rfl <| .z <| .seq ?_
   refine .rs fun k8 => .mv rfl <| .bi rfl <| .z ?_
   refine .cond (t := decide ((IntKind.wrap .i64 ((lens (l.take j) : Int) + ((l.getD j default).length : Int))) < 0)) rfl (fun c1 => ?_) (fun c1 => ?_)
   ·have c1 := of_decide_eq_true c1
    exfalso; (rw [wrap_le (by omega) (by omega)] at c1; omega)
   ·have c1 := of_decide_eq_false c1
    refine .skip <| .rs fun k9 => .bi rfl <| .mv rfl <| .z ?_
    exact .here (j + 1) (.of (.cons rfl (.cons (svI (show (IntKind.wrap .i64 ((lens (l.take j) : Int) + ((l.getD j default).length : Int))) = ((lens (l.take (j + 1)) : Int)) by first | rfl | omega | exact wrap_le (by omega) (by omega) | (rw [wrap_le (by omega) (by omega)]; omega))) (.cons rfl (.cons rfl (.cons (svI (show (IntKind.wrap .i64 ((j : Int) + 1)) = (((j + 1) : Int)) by first | rfl | omega | exact wrap_le (by omega) (by omega) | (rw [wrap_le (by omega) (by omega)]; omega))) .nil))))) .nil) ⟨(show (j + 1) ≤ l.length by omega), (show l.length - (j + 1) < l.length - j by omega)⟩
  ·have c0 := of_decide_eq_false c0
   refine .exit <| .seq <| .rs fun k10 => .mv rfl <| .c0 (c_Grow (lens (l.take j)) (by omega)) rfl (.dd (.dd .nil)) (.own [24, 0] .nil) rfl <| .as rfl <| .z <| .seq <| .seq ?_
   refine .rs fun k11 => .mv rfl <| .g (fun _ τ => ⟨_, .len (.no rfl) rfl (z := (l.length : Int)) t155 rfl rfl rfl (.d _ _) (map_len _ _) rfl τ⟩) <| .mv rfl <| .z <| .block ?_
   refine .loop (X := Nat × Nat × Nat) (fun ζ => .of [(6, .one (.ref [24, 0] (ζ.2.1))), (25, .one (.d (.sl false 24 1 (List.map slc24 (l))))), (26, .one (.d (.v (.int .i64 ((l.length : Int)))))), (27, .one (.d (.v (.int .i64 ((ζ.1 : Int))))))] [([24, 0], (ζ.2.1, ζ.2.2, .row 9 1 (List.map strc ((l.take ζ.1).flatten))))]) (fun ζ => ζ.1 ≤ l.length) (fun ζ => l.length - ζ.1) ?_ ?_
   ·skip
    exact .here (0, (k10 + 1), (k10 + 1)) (.of (.cons (by show SV.one (.ref [24, 0] (k10 + 1)) = SV.one (.ref [24, 0] ((k10 + 1))); first | rfl | simp_all) (.cons rfl (.cons rfl (.cons (svI (show (0) = ((0 : Int)) by first | rfl | omega | exact wrap_le (by omega) (by omega) | (rw [wrap_le (by omega) (by omega)]; omega))) .nil)))) (.cons (rowE (show [] = List.map strc ((l.take 0).flatten) by first | (simp; done) | exact congrArg _ (take_flatten _ _))) .nil)) (show 0 ≤ l.length by omega)
   ·rintro ⟨i, q12, q13⟩ hI
    have hI : i ≤ l.length := hI
    have hs9 := lens_take l i
    have hs8 := lens_le l (i + 1)
    have hs7 := lens_le l i
    dsimp only
    refine .seq <| .rs fun k14 => .bi rfl <| .z <| .seq ?_
    refine .cond (t := decide ((i : Int) < (l.length : Int))) rfl (fun c2 => ?_) (fun c2 => ?_)
    ·have c2 := of_decide_eq_true c2
     refine .skip <| .seq <| .block <| .seq <| .rs fun k15 => .g (fun _ τ => ⟨_, .indexAddr (.no rfl) rfl (i) t155 rfl t24 rfl rfl rfl (.d _ _) rfl rfl rfl (map_get (by omega)) rfl rfl τ⟩) <| .ld t24 rfl (.d _) rfl <| .as rfl <| .z ?_
     refine .rs fun k16 => .mv rfl <| .mv rfl <| .g (fun _ τ => ⟨_, .append (.no rfl) rfl (l3 := List.map strc ((l.take i).flatten ++ l.getD i default)) t24 rfl z9 rfl rfl rfl rfl rfl rfl rfl rfl (.ref _ _ _ _ rfl) (.ro _ _) rfl (by simp only [List.length_map, flatten_lens, i9]; omega) (map_app _ _ _) rfl rfl τ⟩) <| .as rfl <| .z <| .rs fun k17 => .bi rfl <| .mv rfl ?_
     refine .z ?_
     exact .here ((i + 1), (k16 + 1 + 1), (k16 + 1 + 1)) (.of (.cons (by show SV.one (.ref [24, 0] (k16 + 1 + 1)) = SV.one (.ref [24, 0] ((k16 + 1 + 1))); first | rfl | simp_all) (.cons rfl (.cons rfl (.cons (svI (show (IntKind.wrap .i64 ((i : Int) + 1)) = (((i + 1) : Int)) by first | rfl | omega | exact wrap_le (by omega) (by omega) | (rw [wrap_le (by omega) (by omega)]; omega))) .nil)))) (.cons (rowE (show List.map strc ((l.take i).flatten ++ l.getD i default) = List.map strc ((l.take (i + 1)).flatten) by first | (simp; done) | exact congrArg _ (take_flatten _ _))) .nil)) ⟨(show (i + 1) ≤ l.length by omega), (show l.length - (i + 1) < l.length - i by omega)⟩
    ·have c2 := of_decide_eq_false c2
     refine .exit <| .seq <| .rs fun k18 => .mv rfl <| .as rfl <| .z <| .ret ?_
     have e19 : ((l.take i).flatten) = (l.flatten) := by (rw [List.take_of_length_le (by omega)])
     exact fin1 (.inr rfl) [] [([24, 0], (q12, q13, .row 9 1 (List.map strc (l.flatten))))] (.one rfl .nil) (.cons (.ref (.head _)) .nil) rfl rfl (.cons (rowE (congrArg (List.map strc) e19)) .nil)
theorem c_names (d : Decl) (hb : d.vars.length ≤ 1048576 ∧ d.flags.length ≤ 1048576 ∧ d.arrays.length ≤ 1048576) : Trip Tryd.prog 98 [(true, 3)] (Decl.c27 d) [(false, 1)] [.sl true 9 1 (List.map strc (Decl.names d))] [] := by
 refine Trip.of Tryd.func98 (by decide) (c := _) rfl rfl (Nat.le_of_ble_eq_true rfl) rfl (AftOk.nil _) <| .sla (t := 0) 0 rfl rfl fun hs1l => .sla (t := 0) 1 rfl rfl fun hs2l => .sla (t := 0) 2 rfl rfl fun hs3l => .seq <| .rs fun k4 => .g (fun _ τ => ⟨_, .box (.no rfl) rfl rfl rfl rfl rfl τ⟩) <| .as rfl <| .z ?_
 refine .seq <| .rs fun k5 => .fp t27 t24 rfl <| .ld t24 rfl (.ptr _ _ _ _ _ rfl) rfl <| .fp t27 t24 rfl <| .ld t24 rfl (.ptr _ _ _ _ _ rfl) rfl <| .g (fun _ τ => ⟨_, .buildSlice (.no rfl) rfl (els := [[.sl false 9 1 (List.map strc (d.vars))], [.sl false 9 1 (List.map strc (d.flags))]]) t155 rfl z24 rfl rfl rfl rfl rfl rfl rfl rfl (by simp [i24]) (.cons _ _ _ _ _ _ (.d _) (.cons _ _ _ _ _ _ (.d _) .nil)) rfl rfl rfl τ⟩) ?_
 refine .g (fun _ τ => ⟨_, .call (.no rfl) rfl [[10]] [([10], (k5 + 1 + 1 + 1 + 1, k5 + 1 + 1 + 1 + 1, .row 24 1 ([[.sl false 9 1 (List.map strc (d.vars))], [.sl false 9 1 (List.map strc (d.flags))]])))] (c_Concat [d.vars, d.flags] (by (simp [lens]; omega))) rfl rfl rfl rfl rfl (.cons (Reads.ref (Frz.of_erase (erase_slo true 24 1 slc24 slc24 ([d.vars, d.flags]) slc24_e)) (.head _) (.head _)).gives .nil) rfl rfl (fun _ => (ownCons (Owned.map _ _ _ _ strc_o) ownNil)) (.own [11, 0] .nil) (.nil) rfl rfl rfl (AllH.get (.r rfl)) rfl rfl rfl τ⟩) <| .as rfl <| .z <| .seq <| .seq <| .rs fun k6 => .fp t27 t25 rfl <| .ld t25 rfl (.ptr _ _ _ _ _ rfl) rfl <| .g (fun _ τ => ⟨_, .len (.no rfl) rfl (z := (d.arrays.length : Int)) t25 rfl rfl rfl (.d _ _) (map_len _ _) rfl τ⟩) ?_
 refine .mv rfl <| .z <| .block ?_
 refine .loop (X := Nat × Nat × Nat) (fun ζ => .of [(3, .one (.ref [11, 0] (ζ.2.1))), (13, .one (.d (.sl false 48 2 (List.map Arr.c (d.arrays))))), (14, .one (.d (.v (.int .i64 ((d.arrays.length : Int)))))), (15, .one (.d (.v (.int .i64 ((ζ.1 : Int))))))] [([11, 0], (ζ.2.1, ζ.2.2, .row 9 1 (List.map strc (d.vars ++ d.flags ++ (d.arrays.take ζ.1).map Arr.name))))]) (fun ζ => ζ.1 ≤ d.arrays.length) (fun ζ => d.arrays.length - ζ.1) ?_ ?_
 ·skip
  exact .here (0, (k5 + 1 + 1 + 1 + 1 + 1), (k5 + 1 + 1 + 1 + 1 + 1)) (.of (.cons (by show SV.one (.ref [11, 0] (k5 + 1 + 1 + 1 + 1 + 1)) = SV.one (.ref [11, 0] ((k5 + 1 + 1 + 1 + 1 + 1))); first | rfl | simp_all) (.cons rfl (.cons rfl (.cons (svI (show (0) = ((0 : Int)) by first | rfl | omega | exact wrap_le (by omega) (by omega) | (rw [wrap_le (by omega) (by omega)]; omega))) .nil)))) (.cons (rowE (show List.map strc ([d.vars, d.flags].flatten) = List.map strc (d.vars ++ d.flags ++ (d.arrays.take 0).map Arr.name) by first | (simp; done) | (rw [List.append_assoc (d.vars ++ d.flags), take_step (f := Arr.name) (by omega)]))) .nil)) (show 0 ≤ d.arrays.length by omega)
 ·rintro ⟨j, q7, q8⟩ hI
  have hI : j ≤ d.arrays.length := hI
  dsimp only
  refine .seq <| .rs fun k9 => .bi rfl <| .z <| .seq ?_
  refine .cond (t := decide ((j : Int) < (d.arrays.length : Int))) rfl (fun c0 => ?_) (fun c0 => ?_)
  ·have c0 := of_decide_eq_true c0
   refine .skip <| .seq <| .block <| .seq <| .rs fun k10 => .g (fun _ τ => ⟨_, .indexAddr (.no rfl) rfl (j) t25 rfl t48 rfl rfl rfl (.d _ _) rfl rfl rfl (map_get (by omega)) rfl rfl τ⟩) <| .lda t48 rfl (.d _) rfl <| .g (fun _ τ => ⟨_, .alloc (.no rfl) rfl z48 rfl rfl rfl τ⟩) <| .g (fun _ τ => ⟨_, .store (.no rfl) rfl t48 rfl rfl rfl rfl rfl rfl rfl rfl rfl τ⟩) ?_
   refine .z <| .rs fun k11 => .mv rfl <| .fp t48 t9 rfl <| .ld t9 rfl (.ptr _ _ _ _ _ rfl) rfl <| .g (fun _ τ => ⟨_, .buildSlice (.no rfl) rfl (els := [[.v (.string ((d.arrays.getD j default).name))]]) t24 rfl z9 rfl rfl rfl rfl rfl rfl rfl rfl (by simp [i9]) (.cons _ _ _ _ _ _ (.d _) .nil) rfl rfl rfl τ⟩) <| .g (fun _ τ => ⟨_, .append (.no rfl) rfl (l3 := List.map strc (d.vars ++ d.flags ++ (d.arrays.take j).map Arr.name ++ [(d.arrays.getD j default).name])) t24 rfl z9 rfl rfl rfl rfl rfl rfl rfl rfl (.ref _ _ _ _ rfl) (.take _ _ _ _ _ rfl) rfl (by simp [i9]; omega) (map_snoc _ _ _) rfl rfl τ⟩) <| .as rfl <| .z ?_
   refine .rs fun k12 => .bi rfl <| .mv rfl <| .z ?_
   exact .here ((j + 1), (k11 + 1 + 1 + 1 + 1), (k11 + 1 + 1 + 1 + 1)) (.of (.cons (by show SV.one (.ref [11, 0] (k11 + 1 + 1 + 1 + 1)) = SV.one (.ref [11, 0] ((k11 + 1 + 1 + 1 + 1))); first | rfl | simp_all) (.cons rfl (.cons rfl (.cons (svI (show (IntKind.wrap .i64 ((j : Int) + 1)) = (((j + 1) : Int)) by first | rfl | omega | exact wrap_le (by omega) (by omega) | (rw [wrap_le (by omega) (by omega)]; omega))) .nil)))) (.cons (rowE (show List.map strc (d.vars ++ d.flags ++ (d.arrays.take j).map Arr.name ++ [(d.arrays.getD j default).name]) = List.map strc (d.vars ++ d.flags ++ (d.arrays.take (j + 1)).map Arr.name) by first | (simp; done) | (rw [List.append_assoc (d.vars ++ d.flags), take_step (f := Arr.name) (by omega)]))) .nil)) ⟨(show (j + 1) ≤ d.arrays.length by omega), (show d.arrays.length - (j + 1) < d.arrays.length - j by omega)⟩
  ·have c0 := of_decide_eq_false c0
   refine .exit <| .seq <| .rs fun k13 => .mv rfl <| .as rfl <| .z <| .ret ?_
   have e14 : (d.vars ++ d.flags ++ (d.arrays.take j).map Arr.name) = (Decl.names d) := by (simp only [Decl.names]; rw [List.take_of_length_le (by omega)])
   exact fin1 (.inr rfl) [] [([11, 0], (q7, q8, .row 9 1 (List.map strc (Decl.names d))))] (.one rfl .nil) (.cons (.ref (.head _)) .nil) rfl rfl (.cons (rowE (congrArg (List.map strc) e14)) .nil)
end Go.Proofs

namespace Go.Proofs
open Go Go.Proofs Go.Ev

def i39 : TI := ⟨.fn, 1, 8, [.nilFunc]⟩
theorem t39 : TyOk Tryd.prog 39 i39 := ⟨⟨_, _, _, Tryd.underlying39⟩, by kernel_rfl⟩
theorem z39 : ZOk Tryd.prog 39 i39 := ⟨t39, rfl⟩
def i136 : TI := ⟨.fn, 1, 8, [.nilFunc]⟩
theorem t136 : TyOk Tryd.prog 136 i136 := ⟨⟨_, _, _, Tryd.underlying136⟩, by kernel_rfl⟩
theorem z136 : ZOk Tryd.prog 136 i136 := ⟨t136, rfl⟩
theorem c_IvOk (a : Iv) : Trip Tryd.prog 86 [(true, 2)] (Iv.c a) [(false, 1)] [.v (.bool (Iv.ok a))] [] := by
 refine Trip.of Tryd.func86 (by decide) (c := _) rfl rfl (Nat.le_of_ble_eq_true rfl) rfl (AftOk.nil _) <| .seq <| .rs fun k1 => .g (fun _ τ => ⟨_, .box (.no rfl) rfl rfl rfl rfl rfl τ⟩) <| .as rfl <| .z <| .seq <| .rs fun k2 => .fp t32 t2 rfl ?_
 refine .ld t2 rfl (.ptr _ _ _ _ _ rfl) rfl <| .fp t32 t2 rfl <| .ld t2 rfl (.ptr _ _ _ _ _ rfl) rfl <| .bi rfl <| .as rfl <| .z <| .ret ?_
 exact fin0 (.inr rfl) (.one (svB (show (decide (a.lo ≤ a.hi)) = (Iv.ok a) by rfl)) .nil) (.dd .nil) rfl
theorem c_IndexFuncA (l : List Arr) (F_p : FuncId) (first_p : List (Bool × List D)) (caps_p : List D) (p : Arr → Bool) (h_p : ∀ (x0 : Arr), FnTrip Tryd.prog F_p first_p caps_p [(true, 2)] (Arr.c x0) [(false, 1)] [.v (.bool (p x0))]) : Trip Tryd.prog 137 [(false, 1), (false, 1)] ([.sl false 48 2 (List.map Arr.c (l))] ++ [.fn F_p first_p caps_p]) [(false, 1)] [.v (.int .i64 (idx p l))] [] := by
 refine Trip.of Tryd.func137 (by decide) (c := _) rfl rfl (Nat.le_of_ble_eq_true rfl) rfl (AftOk.nil _) <| .sl (t := 0) rfl fun hs1l => .seq <| .rs fun k2 => .as rfl <| .z <| .seq <| .seq <| .rs fun k3 => ?_
 refine .mv rfl <| .g (fun _ τ => ⟨_, .len (.no rfl) rfl (z := (l.length : Int)) t25 rfl rfl rfl (.d _ _) (map_len _ _) rfl τ⟩) <| .mv rfl <| .z <| .block ?_
 refine .loop (X := Nat) (fun ζ => .of [(0, .one (.d (.sl false 48 2 (List.map Arr.c (l))))), (1, .one (.d (.fn F_p first_p caps_p))), (7, .one (.d (.v (.int .i64 ((l.length : Int)))))), (8, .one (.d (.v (.int .i64 ((ζ : Int))))))] []) (fun ζ => ζ ≤ l.length ∧ allTo ζ (fun i => !p (l.getD i default)) = true) (fun ζ => l.length - ζ) ?_ ?_
 ·skip
  exact .here 0 (.of (.cons rfl (.cons rfl (.cons rfl (.cons (svI (show (0) = ((0 : Int)) by first | rfl | omega | exact wrap_le (by omega) (by omega) | (rw [wrap_le (by omega) (by omega)]; omega))) .nil)))) .nil) (show 0 ≤ l.length ∧ allTo 0 (fun i => !p (l.getD i default)) = true by exact ⟨by omega, rfl⟩)
 ·rintro j hI
  have hI : j ≤ l.length ∧ allTo j (fun i => !p (l.getD i default)) = true := hI
  refine .seq <| .rs fun k4 => .bi rfl <| .z <| .seq ?_
  refine .cond (t := decide ((j : Int) < (l.length : Int))) rfl (fun c0 => ?_) (fun c0 => ?_)
  ·have c0 := of_decide_eq_true c0
   refine .skip <| .seq <| .block <| .seq <| .rs fun k5 => .mv rfl <| .as rfl <| .z <| .seq ?_
   refine .rs fun k6 => .mv rfl <| .mv rfl <| .mv rfl <| .g (fun _ τ => ⟨_, .indexAddr (.no rfl) rfl (j) t25 rfl t48 rfl rfl rfl (.d _ _) rfl rfl rfl (map_get (by omega)) rfl rfl τ⟩) <| .lda t48 rfl (.d _) rfl <| .g (fun _ τ => ⟨_, .callF (.no rfl) rfl (ds := [.v (.string ((l.getD j default).name)), .v (.int .i64 ((l.getD j default).size))]) (h_p (l.getD j default)) rfl rfl rfl rfl (.own [16, 0] .nil) rfl rfl rfl rfl rfl rfl τ⟩) <| .z ?_
   refine .cond (t := p (l.getD j default)) rfl (fun c1 => ?_) (fun c1 => ?_)
   ·have c1 := c1
    refine .seq <| .rs fun k7 => .mv rfl <| .as rfl <| .z <| .ret ?_
    exact fin0 (.inr rfl) (.one (svI (show ((j : Int)) = (idx p l) by exact (idx_found (j := j) (by omega) hI.2 (by simpa using c1)).symm)) .nil) (.dd .nil) rfl
   ·have c1 := c1
    refine .skip <| .rs fun k9 => .bi rfl <| .mv rfl <| .z ?_
    exact .here (j + 1) (.of (.cons rfl (.cons rfl (.cons rfl (.cons (svI (show (IntKind.wrap .i64 ((j : Int) + 1)) = (((j + 1) : Int)) by first | rfl | omega | exact wrap_le (by omega) (by omega) | (rw [wrap_le (by omega) (by omega)]; omega))) .nil)))) .nil) ⟨(show (j + 1) ≤ l.length ∧ allTo (j + 1) (fun i => !p (l.getD i default)) = true by exact ⟨by omega, allTo_step hI.2 (by simpa using c1)⟩), (show l.length - (j + 1) < l.length - j by omega)⟩
  ·have c0 := of_decide_eq_false c0
   refine .exit <| .seq <| .rs fun k10 => .as rfl <| .z <| .ret ?_
   exact fin0 (.inr rfl) (.one (svI (show (-1) = (idx p l) by exact (idx_none (by omega) hI.2).symm)) .nil) (.dd .nil) rfl
theorem c_ContainsFuncA (l : List Arr) (F_p : FuncId) (first_p : List (Bool × List D)) (caps_p : List D) (p : Arr → Bool) (h_p : ∀ (x0 : Arr), FnTrip Tryd.prog F_p first_p caps_p [(true, 2)] (Arr.c x0) [(false, 1)] [.v (.bool (p x0))]) : Trip Tryd.prog 126 [(false, 1), (false, 1)] ([.sl false 48 2 (List.map Arr.c (l))] ++ [.fn F_p first_p caps_p]) [(false, 1)] [.v (.bool (l.any p))] [] := by
 refine Trip.of Tryd.func126 (by decide) (c := _) rfl rfl (Nat.le_of_ble_eq_true rfl) rfl (AftOk.nil _) <| .sl (t := 0) rfl fun hs1l => .seq <| .rs fun k2 => .as rfl <| .z <| .seq <| .rs fun k3 => .mv rfl ?_
 refine .mv rfl <| .c0 (c_IndexFuncA l F_p first_p caps_p p h_p) rfl (.dd (.dd .nil)) (.own [7, 0] .nil) rfl <| .bi rfl <| .as rfl <| .z <| .ret ?_
 exact fin0 (.inr rfl) (.one (svB (show (decide ((idx p l) ≥ 0)) = (l.any p) by exact idx_any _ _)) .nil) (.dd .nil) rfl
theorem c_areAll1A (x : Arr) (F_p : FuncId) (first_p : List (Bool × List D)) (caps_p : List D) (p : Arr → Bool) (h_p : ∀ (x0 : Arr), FnTrip Tryd.prog F_p first_p caps_p [(true, 2)] (Arr.c x0) [(false, 1)] [.v (.bool (p x0))]) : Trip Tryd.prog 127 [(true, 2), (false, 1)] (Arr.c x ++ [.pt false [.fn F_p first_p caps_p]]) [(false, 1)] [.v (.bool (!p x))] [] := by
 refine Trip.of Tryd.func127 (by decide) (c := _) rfl rfl (Nat.le_of_ble_eq_true rfl) rfl (AftOk.nil _) <| .seq <| .rs fun k1 => .g (fun _ τ => ⟨_, .box (.no rfl) rfl rfl rfl rfl rfl τ⟩) <| .as rfl <| .z <| .seq <| .rs fun k2 => .ld t136 rfl (.d _) rfl ?_
 refine .lda t48 rfl (.ptr _ _ _ _ _ rfl) rfl <| .g (fun _ τ => ⟨_, .callF (.no rfl) rfl (ds := [.v (.string (x.name)), .v (.int .i64 (x.size))]) (h_p x) rfl rfl rfl rfl (.own [6, 0] .nil) rfl rfl rfl rfl rfl rfl τ⟩) <| .un rfl <| .as rfl <| .z <| .ret ?_
 exact fin0 (.inr rfl) (.one (svB (show (!(p x)) = (!p x) by rfl)) .nil) (.dd .nil) rfl
theorem c_areAllA (l : List Arr) (F_p : FuncId) (first_p : List (Bool × List D)) (caps_p : List D) (p : Arr → Bool) (h_p : ∀ (x0 : Arr), FnTrip Tryd.prog F_p first_p caps_p [(true, 2)] (Arr.c x0) [(false, 1)] [.v (.bool (p x0))]) : Trip Tryd.prog 102 [(false, 1), (false, 1)] ([.sl false 48 2 (List.map Arr.c (l))] ++ [.fn F_p first_p caps_p]) [(false, 1)] [.v (.bool (l.all p))] [] := by
 refine Trip.of Tryd.func102 (by decide) (c := _) rfl rfl (Nat.le_of_ble_eq_true rfl) rfl (AftOk.nil _) <| .sl (t := 0) rfl fun hs1l => .seq <| .rs fun k2 => .g (fun _ τ => ⟨_, .box (.no rfl) rfl rfl rfl rfl rfl τ⟩) <| .as rfl <| .z <| .seq <| .rs fun k3 => ?_
 refine .mv rfl <| .g (fun _ τ => ⟨_, .makeFunc (.no rfl) rfl rfl rfl rfl rfl τ⟩) <| .g (fun _ τ => ⟨_, .call (.no rfl) rfl [[3]] [([3], (k2, k2, .box [.d (.fn F_p first_p caps_p)]))] (c_ContainsFuncA l 127 [] [.pt false [.fn F_p first_p caps_p]] (fun x0 => !p x0) (fun x0 => c_areAll1A x0 F_p first_p caps_p p h_p)) rfl rfl rfl rfl rfl (.dd (.cons (Reads.clo0 (.cons (Reads.ptr0 (.head _) (.head _) (.cons (Reads.d _) .nil)) .nil)).gives .nil)) rfl rfl (fun _ => (ownCons (Owned.v _) ownNil)) (.own [7, 0] .nil) (.nil) rfl rfl rfl (AllH.get (.r rfl)) rfl rfl rfl τ⟩) <| .un rfl <| .as rfl <| .z <| .ret ?_
 exact fin0 (.inr rfl) (.one (svB (show (!(l.any (fun x0 => !p x0))) = (l.all p) by exact not_any _ _)) .nil) (.dd .nil) rfl
theorem c_IndexFuncI (l : List Iv) (F_p : FuncId) (first_p : List (Bool × List D)) (caps_p : List D) (p : Iv → Bool) (h_p : ∀ (x0 : Iv), FnTrip Tryd.prog F_p first_p caps_p [(true, 2)] (Iv.c x0) [(false, 1)] [.v (.bool (p x0))]) : Trip Tryd.prog 138 [(false, 1), (false, 1)] ([.sl false 32 2 (List.map Iv.c (l))] ++ [.fn F_p first_p caps_p]) [(false, 1)] [.v (.int .i64 (idx p l))] [] := by
 refine Trip.of Tryd.func138 (by decide) (c := _) rfl rfl (Nat.le_of_ble_eq_true rfl) rfl (AftOk.nil _) <| .sl (t := 0) rfl fun hs1l => .seq <| .rs fun k2 => .as rfl <| .z <| .seq <| .seq <| .rs fun k3 => ?_
 refine .mv rfl <| .g (fun _ τ => ⟨_, .len (.no rfl) rfl (z := (l.length : Int)) t28 rfl rfl rfl (.d _ _) (map_len _ _) rfl τ⟩) <| .mv rfl <| .z <| .block ?_
 refine .loop (X := Nat) (fun ζ => .of [(0, .one (.d (.sl false 32 2 (List.map Iv.c (l))))), (1, .one (.d (.fn F_p first_p caps_p))), (7, .one (.d (.v (.int .i64 ((l.length : Int)))))), (8, .one (.d (.v (.int .i64 ((ζ : Int))))))] []) (fun ζ => ζ ≤ l.length ∧ allTo ζ (fun i => !p (l.getD i default)) = true) (fun ζ => l.length - ζ) ?_ ?_
 ·skip
  exact .here 0 (.of (.cons rfl (.cons rfl (.cons rfl (.cons (svI (show (0) = ((0 : Int)) by first | rfl | omega | exact wrap_le (by omega) (by omega) | (rw [wrap_le (by omega) (by omega)]; omega))) .nil)))) .nil) (show 0 ≤ l.length ∧ allTo 0 (fun i => !p (l.getD i default)) = true by exact ⟨by omega, rfl⟩)
 ·rintro j hI
  have hI : j ≤ l.length ∧ allTo j (fun i => !p (l.getD i default)) = true := hI
  refine .seq <| .rs fun k4 => .bi rfl <| .z <| .seq ?_
  refine .cond (t := decide ((j : Int) < (l.length : Int))) rfl (fun c0 => ?_) (fun c0 => ?_)
  ·have c0 := of_decide_eq_true c0
   refine .skip <| .seq <| .block <| .seq <| .rs fun k5 => .mv rfl <| .as rfl <| .z <| .seq ?_
   refine .rs fun k6 => .mv rfl <| .mv rfl <| .mv rfl <| .g (fun _ τ => ⟨_, .indexAddr (.no rfl) rfl (j) t28 rfl t32 rfl rfl rfl (.d _ _) rfl rfl rfl (map_get (by omega)) rfl rfl τ⟩) <| .lda t32 rfl (.d _) rfl <| .g (fun _ τ => ⟨_, .callF (.no rfl) rfl (ds := [.v (.int .i64 ((l.getD j default).lo)), .v (.int .i64 ((l.getD j default).hi))]) (h_p (l.getD j default)) rfl rfl rfl rfl (.own [16, 0] .nil) rfl rfl rfl rfl rfl rfl τ⟩) <| .z ?_
   refine .cond (t := p (l.getD j default)) rfl (fun c1 => ?_) (fun c1 => ?_)
   ·have c1 := c1
    refine .seq <| .rs fun k7 => .mv rfl <| .as rfl <| .z <| .ret ?_
    exact fin0 (.inr rfl) (.one (svI (show ((j : Int)) = (idx p l) by exact (idx_found (j := j) (by omega) hI.2 (by simpa using c1)).symm)) .nil) (.dd .nil) rfl
   ·have c1 := c1
    refine .skip <| .rs fun k9 => .bi rfl <| .mv rfl <| .z ?_
    exact .here (j + 1) (.of (.cons rfl (.cons rfl (.cons rfl (.cons (svI (show (IntKind.wrap .i64 ((j : Int) + 1)) = (((j + 1) : Int)) by first | rfl | omega | exact wrap_le (by omega) (by omega) | (rw [wrap_le (by omega) (by omega)]; omega))) .nil)))) .nil) ⟨(show (j + 1) ≤ l.length ∧ allTo (j + 1) (fun i => !p (l.getD i default)) = true by exact ⟨by omega, allTo_step hI.2 (by simpa using c1)⟩), (show l.length - (j + 1) < l.length - j by omega)⟩
  ·have c0 := of_decide_eq_false c0
   refine .exit <| .seq <| .rs fun k10 => .as rfl <| .z <| .ret ?_
   exact fin0 (.inr rfl) (.one (svI (show (-1) = (idx p l) by exact (idx_none (by omega) hI.2).symm)) .nil) (.dd .nil) rfl
theorem c_ContainsFuncI (l : List Iv) (F_p : FuncId) (first_p : List (Bool × List D)) (caps_p : List D) (p : Iv → Bool) (h_p : ∀ (x0 : Iv), FnTrip Tryd.prog F_p first_p caps_p [(true, 2)] (Iv.c x0) [(false, 1)] [.v (.bool (p x0))]) : Trip Tryd.prog 128 [(false, 1), (false, 1)] ([.sl false 32 2 (List.map Iv.c (l))] ++ [.fn F_p first_p caps_p]) [(false, 1)] [.v (.bool (l.any p))] [] := by
 refine Trip.of Tryd.func128 (by decide) (c := _) rfl rfl (Nat.le_of_ble_eq_true rfl) rfl (AftOk.nil _) <| .sl (t := 0) rfl fun hs1l => .seq <| .rs fun k2 => .as rfl <| .z <| .seq <| .rs fun k3 => .mv rfl ?_
 refine .mv rfl <| .c0 (c_IndexFuncI l F_p first_p caps_p p h_p) rfl (.dd (.dd .nil)) (.own [7, 0] .nil) rfl <| .bi rfl <| .as rfl <| .z <| .ret ?_
 exact fin0 (.inr rfl) (.one (svB (show (decide ((idx p l) ≥ 0)) = (l.any p) by exact idx_any _ _)) .nil) (.dd .nil) rfl
theorem c_areAll1I (x : Iv) (F_p : FuncId) (first_p : List (Bool × List D)) (caps_p : List D) (p : Iv → Bool) (h_p : ∀ (x0 : Iv), FnTrip Tryd.prog F_p first_p caps_p [(true, 2)] (Iv.c x0) [(false, 1)] [.v (.bool (p x0))]) : Trip Tryd.prog 129 [(true, 2), (false, 1)] (Iv.c x ++ [.pt false [.fn F_p first_p caps_p]]) [(false, 1)] [.v (.bool (!p x))] [] := by
 refine Trip.of Tryd.func129 (by decide) (c := _) rfl rfl (Nat.le_of_ble_eq_true rfl) rfl (AftOk.nil _) <| .seq <| .rs fun k1 => .g (fun _ τ => ⟨_, .box (.no rfl) rfl rfl rfl rfl rfl τ⟩) <| .as rfl <| .z <| .seq <| .rs fun k2 => .ld t39 rfl (.d _) rfl ?_
 refine .lda t32 rfl (.ptr _ _ _ _ _ rfl) rfl <| .g (fun _ τ => ⟨_, .callF (.no rfl) rfl (ds := [.v (.int .i64 (x.lo)), .v (.int .i64 (x.hi))]) (h_p x) rfl rfl rfl rfl (.own [6, 0] .nil) rfl rfl rfl rfl rfl rfl τ⟩) <| .un rfl <| .as rfl <| .z <| .ret ?_
 exact fin0 (.inr rfl) (.one (svB (show (!(p x)) = (!p x) by rfl)) .nil) (.dd .nil) rfl
theorem c_areAllI (l : List Iv) (F_p : FuncId) (first_p : List (Bool × List D)) (caps_p : List D) (p : Iv → Bool) (h_p : ∀ (x0 : Iv), FnTrip Tryd.prog F_p first_p caps_p [(true, 2)] (Iv.c x0) [(false, 1)] [.v (.bool (p x0))]) : Trip Tryd.prog 103 [(false, 1), (false, 1)] ([.sl false 32 2 (List.map Iv.c (l))] ++ [.fn F_p first_p caps_p]) [(false, 1)] [.v (.bool (l.all p))] [] := by
 refine Trip.of Tryd.func103 (by decide) (c := _) rfl rfl (Nat.le_of_ble_eq_true rfl) rfl (AftOk.nil _) <| .sl (t := 0) rfl fun hs1l => .seq <| .rs fun k2 => .g (fun _ τ => ⟨_, .box (.no rfl) rfl rfl rfl rfl rfl τ⟩) <| .as rfl <| .z <| .seq <| .rs fun k3 => ?_
 refine .mv rfl <| .g (fun _ τ => ⟨_, .makeFunc (.no rfl) rfl rfl rfl rfl rfl τ⟩) <| .g (fun _ τ => ⟨_, .call (.no rfl) rfl [[3]] [([3], (k2, k2, .box [.d (.fn F_p first_p caps_p)]))] (c_ContainsFuncI l 129 [] [.pt false [.fn F_p first_p caps_p]] (fun x0 => !p x0) (fun x0 => c_areAll1I x0 F_p first_p caps_p p h_p)) rfl rfl rfl rfl rfl (.dd (.cons (Reads.clo0 (.cons (Reads.ptr0 (.head _) (.head _) (.cons (Reads.d _) .nil)) .nil)).gives .nil)) rfl rfl (fun _ => (ownCons (Owned.v _) ownNil)) (.own [7, 0] .nil) (.nil) rfl rfl rfl (AllH.get (.r rfl)) rfl rfl rfl τ⟩) <| .un rfl <| .as rfl <| .z <| .ret ?_
 exact fin0 (.inr rfl) (.one (svB (show (!(l.any (fun x0 => !p x0))) = (l.all p) by exact not_any _ _)) .nil) (.dd .nil) rfl
theorem c_isLetter (c : Int) : Trip Tryd.prog 123 [(false, 1)] ([.v (.int .u8 (c))]) [(false, 1)] [.v (.bool (decide (c ≥ 97) && decide (c ≤ 122)))] [] := by
 refine Trip.of Tryd.func123 (by decide) (c := _) rfl rfl (Nat.le_of_ble_eq_true rfl) rfl (AftOk.nil _) <| .seq <| .rs fun k1 => .as rfl <| .z <| .seq ?_
 refine .reg (X := Unit) (fun ζ => .of [(2, .one (.d (.v (.bool ((decide (c ≥ 97) && decide (c ≤ 122)))))))] []) [⟨[0], some 3, [], []⟩, ⟨[3], some 4, [], []⟩, ⟨[4], some 5, [], []⟩, ⟨[5, 0], some 6, [], []⟩, ⟨[5, 6], some 7, [], []⟩, ⟨[5, 7], some 8, [], []⟩, ⟨[8], some 2, [], []⟩] (fun k2 => ?_) ?_
 ·skip
  refine .move (.no rfl) rfl rfl rfl rfl <| .bin (.no rfl) rfl rfl rfl rfl rfl rfl <| .moveB (.no rfl) rfl rfl rfl rfl fun b3 g1_2 => ?_
  cases b3
  ·skip
   refine .off rfl rfl rfl rfl rfl rfl rfl <| .off rfl rfl rfl rfl rfl rfl rfl <| .pick (.no rfl) rfl rfl rfl rfl rfl <| .assign (.no rfl) rfl rfl rfl rfl ?_
   exact .fin () (.of (.cons (svB (show (false) = ((decide (c ≥ 97) && decide (c ≤ 122))) by first | (simp only [g1_2, Bool.true_or, Bool.false_or, Bool.true_and, Bool.false_and, Bool.not_true, Bool.not_false]; done) | simp [g1_2])) .nil) .nil)
  ·skip
   refine .move (.on rfl rfl rfl rfl rfl) rfl rfl rfl rfl <| .bin (.on rfl rfl rfl rfl rfl) rfl rfl rfl rfl rfl rfl <| .pick (.no rfl) rfl rfl rfl rfl rfl <| .assign (.no rfl) rfl rfl rfl rfl ?_
   exact .fin () (.of (.cons (svB (show (decide (c ≤ 122)) = ((decide (c ≥ 97) && decide (c ≤ 122))) by first | (simp only [g1_2, Bool.true_or, Bool.false_or, Bool.true_and, Bool.false_and, Bool.not_true, Bool.not_false]; done) | simp [g1_2])) .nil) .nil)
 intro _
 refine .ret ?_
 exact fin0 (.inr rfl) (.one (svB (show ((decide (c ≥ 97) && decide (c ≤ 122))) = (decide (c ≥ 97) && decide (c ≤ 122)) by rfl)) .nil) (.dd .nil) rfl
theorem c_within (n : Int) (lo : Int) (hi : Int) : Trip Tryd.prog 40 [(false, 1), (false, 1), (false, 1)] ([.v (.int .i64 (n))] ++ [.v (.int .i64 (lo))] ++ [.v (.int .i64 (hi))]) [(false, 1)] [.v (.bool (inR n lo hi))] [] := by
 refine Trip.of Tryd.func40 (by decide) (c := _) rfl rfl (Nat.le_of_ble_eq_true rfl) rfl (AftOk.nil _) <| .seq <| .rs fun k1 => .as rfl <| .z <| .seq ?_
 refine .reg (X := Unit) (fun ζ => .of [(6, .one (.d (.v (.bool ((decide (lo ≤ n) && decide (n ≤ hi)))))))] []) [⟨[1], some 7, [], []⟩, ⟨[0], some 8, [], []⟩, ⟨[7, 8], some 9, [], []⟩, ⟨[9], some 10, [], []⟩, ⟨[10, 0], some 11, [], []⟩, ⟨[10, 2], some 12, [], []⟩, ⟨[10, 11, 12], some 13, [], []⟩, ⟨[10, 13], some 14, [], []⟩, ⟨[14], some 6, [], []⟩] (fun k2 => ?_) ?_
 ·skip
  refine .move (.no rfl) rfl rfl rfl rfl <| .move (.no rfl) rfl rfl rfl rfl <| .bin (.no rfl) rfl rfl rfl rfl rfl rfl <| .moveB (.no rfl) rfl rfl rfl rfl fun b3 g1_3 => ?_
  cases b3
  ·skip
   refine .off rfl rfl rfl rfl rfl rfl rfl <| .off rfl rfl rfl rfl rfl rfl rfl <| .off rfl rfl rfl rfl rfl rfl rfl <| .pick (.no rfl) rfl rfl rfl rfl rfl <| .assign (.no rfl) rfl rfl rfl rfl ?_
   exact .fin () (.of (.cons (svB (show (false) = ((decide (lo ≤ n) && decide (n ≤ hi))) by first | (simp only [g1_3, Bool.true_or, Bool.false_or, Bool.true_and, Bool.false_and, Bool.not_true, Bool.not_false]; done) | simp [g1_3])) .nil) .nil)
  ·skip
   refine .move (.on rfl rfl rfl rfl rfl) rfl rfl rfl rfl <| .move (.on rfl rfl rfl rfl rfl) rfl rfl rfl rfl <| .bin (.on rfl rfl rfl rfl rfl) rfl rfl rfl rfl rfl rfl <| .pick (.no rfl) rfl rfl rfl rfl rfl <| .assign (.no rfl) rfl rfl rfl rfl ?_
   exact .fin () (.of (.cons (svB (show (decide (n ≤ hi)) = ((decide (lo ≤ n) && decide (n ≤ hi))) by first | (simp only [g1_3, Bool.true_or, Bool.false_or, Bool.true_and, Bool.false_and, Bool.not_true, Bool.not_false]; done) | simp [g1_3])) .nil) .nil)
 intro _
 refine .ret ?_
 exact fin0 (.inr rfl) (.one (svB (show ((decide (lo ≤ n) && decide (n ≤ hi))) = (inR n lo hi) by rfl)) .nil) (.dd .nil) rfl
theorem c_IndexS (l : List ByteArray) (s : ByteArray) : Trip Tryd.prog 125 [(false, 1), (false, 1)] ([.sl false 9 1 (List.map strc (l))] ++ [.v (.string (s))]) [(false, 1)] [.v (.int .i64 (idx (fun x => strEq s x) l))] [] := by
 refine Trip.of Tryd.func125 (by decide) (c := _) rfl rfl (Nat.le_of_ble_eq_true rfl) rfl (AftOk.nil _) <| .sl (t := 0) rfl fun hs1l => .seq <| .rs fun k2 => .as rfl <| .z <| .seq <| .seq <| .rs fun k3 => ?_
 refine .mv rfl <| .g (fun _ τ => ⟨_, .len (.no rfl) rfl (z := (l.length : Int)) t24 rfl rfl rfl (.d _ _) (map_len _ _) rfl τ⟩) <| .mv rfl <| .z <| .block ?_
 refine .loop (X := Nat) (fun ζ => .of [(0, .one (.d (.sl false 9 1 (List.map strc (l))))), (1, .one (.d (.v (.string (s))))), (7, .one (.d (.v (.int .i64 ((l.length : Int)))))), (8, .one (.d (.v (.int .i64 ((ζ : Int))))))] []) (fun ζ => ζ ≤ l.length ∧ allTo ζ (fun i => !strEq s (l.getD i default)) = true) (fun ζ => l.length - ζ) ?_ ?_
 ·skip
  exact .here 0 (.of (.cons rfl (.cons rfl (.cons rfl (.cons (svI (show (0) = ((0 : Int)) by first | rfl | omega | exact wrap_le (by omega) (by omega) | (rw [wrap_le (by omega) (by omega)]; omega))) .nil)))) .nil) (show 0 ≤ l.length ∧ allTo 0 (fun i => !strEq s (l.getD i default)) = true by exact ⟨by omega, rfl⟩)
 ·rintro j hI
  have hI : j ≤ l.length ∧ allTo j (fun i => !strEq s (l.getD i default)) = true := hI
  refine .seq <| .rs fun k4 => .bi rfl <| .z <| .seq ?_
  refine .cond (t := decide ((j : Int) < (l.length : Int))) rfl (fun c0 => ?_) (fun c0 => ?_)
  ·have c0 := of_decide_eq_true c0
   refine .skip <| .seq <| .block <| .seq <| .rs fun k5 => .mv rfl <| .as rfl <| .z <| .seq ?_
   refine .rs fun k6 => .mv rfl <| .mv rfl <| .mv rfl <| .g (fun _ τ => ⟨_, .indexAddr (.no rfl) rfl (j) t24 rfl t9 rfl rfl rfl (.d _ _) rfl rfl rfl (map_get (by omega)) rfl rfl τ⟩) <| .ld t9 rfl (.d _) rfl <| .bi rfl <| .z ?_
   refine .cond (t := s.toList == (l.getD j default).toList) rfl (fun c1 => ?_) (fun c1 => ?_)
   ·have c1 := c1
    refine .seq <| .rs fun k7 => .mv rfl <| .as rfl <| .z <| .ret ?_
    exact fin0 (.inr rfl) (.one (svI (show ((j : Int)) = (idx (fun x => strEq s x) l) by exact (idx_found (p := fun x => strEq s x) (by omega) hI.2 c1).symm)) .nil) (.dd .nil) rfl
   ·have c1 := c1
    refine .skip <| .rs fun k9 => .bi rfl <| .mv rfl <| .z ?_
    exact .here (j + 1) (.of (.cons rfl (.cons rfl (.cons rfl (.cons (svI (show (IntKind.wrap .i64 ((j : Int) + 1)) = (((j + 1) : Int)) by first | rfl | omega | exact wrap_le (by omega) (by omega) | (rw [wrap_le (by omega) (by omega)]; omega))) .nil)))) .nil) ⟨(show (j + 1) ≤ l.length ∧ allTo (j + 1) (fun i => !strEq s (l.getD i default)) = true by exact ⟨by omega, allTo_step hI.2 (by rw [show strEq s (l.getD j default) = false from c1]; rfl)⟩), (show l.length - (j + 1) < l.length - j by omega)⟩
  ·have c0 := of_decide_eq_false c0
   refine .exit <| .seq <| .rs fun k10 => .as rfl <| .z <| .ret ?_
   exact fin0 (.inr rfl) (.one (svI (show (-1) = (idx (fun x => strEq s x) l) by exact (idx_none (p := fun x => strEq s x) (by omega) hI.2).symm)) .nil) (.dd .nil) rfl
theorem c_ContainsS (l : List ByteArray) (s : ByteArray) : Trip Tryd.prog 100 [(false, 1), (false, 1)] ([.sl false 9 1 (List.map strc (l))] ++ [.v (.string (s))]) [(false, 1)] [.v (.bool (l.any fun x => strEq s x))] [] := by
 refine Trip.of Tryd.func100 (by decide) (c := _) rfl rfl (Nat.le_of_ble_eq_true rfl) rfl (AftOk.nil _) <| .sl (t := 0) rfl fun hs1l => .seq <| .rs fun k2 => .as rfl <| .z <| .seq <| .rs fun k3 => .mv rfl ?_
 refine .mv rfl <| .c0 (c_IndexS l s) rfl (.dd (.dd .nil)) (.own [7, 0] .nil) rfl <| .bi rfl <| .as rfl <| .z <| .ret ?_
 exact fin0 (.inr rfl) (.one (svB (show (decide ((idx (fun x => strEq s x) l) ≥ 0)) = (l.any fun x => strEq s x) by exact idx_any _ _)) .nil) (.dd .nil) rfl
theorem asciiTab {W : World} {Z : Nat → Prop} (h : Laid W Z) : ∀ c : Nat, c < 256 → W.cell? ⟨0, c, none⟩ = some (.int .u8 (if Lib.isSp (UInt8.ofNat c) then 1 else 0)) := fun c hc => by
  obtain ⟨_, h2⟩ := h _ (List.mem_singleton.2 rfl)
  obtain ⟨v, h3, h4⟩ := h2 c (.v (.int .u8 (if Lib.isSp (UInt8.ofNat c) then 1 else 0))) (by simp [hc])
  cases h4; exact h3
def words : ByteArray := (⟨#[118, 97, 114, 32, 102, 108, 97, 103, 32, 97, 114, 114, 97, 121, 32, 105, 102, 32, 102, 111, 114, 107, 32, 101, 108, 115, 101, 32, 101, 110, 100, 32, 119, 104, 105, 108, 101, 32, 117, 110, 114, 111, 108, 108, 32, 97, 115, 115, 101, 114, 116, 32, 97, 115, 115, 117, 109, 101, 32, 105, 110, 112, 117, 116, 32, 115, 112, 108, 105, 116, 32, 109, 101, 114, 103, 101, 32, 116, 114, 117, 101, 32, 102, 97, 108, 115, 101]⟩ : ByteArray)
theorem words_ascii : ∀ (j : Nat) b, words.data.toList[j]? = some b → b.toNat < 128 := fun j b h => by
  have h1 : (words.data.toList.all fun b => decide (b.toNat < 128)) = true := by kernel_rfl
  exact of_decide_eq_true (List.all_eq_true.1 h1 b (List.mem_of_getElem? h))
theorem words_fields : Lib.fields words.data.toList = keys.map fun k => k.data.toList := by kernel_rfl
theorem c_Fields : Trip Tryd.prog 136 [(false, 1)] ([.v (.string (⟨#[118, 97, 114, 32, 102, 108, 97, 103, 32, 97, 114, 114, 97, 121, 32, 105, 102, 32, 102, 111, 114, 107, 32, 101, 108, 115, 101, 32, 101, 110, 100, 32, 119, 104, 105, 108, 101, 32, 117, 110, 114, 111, 108, 108, 32, 97, 115, 115, 101, 114, 116, 32, 97, 115, 115, 117, 109, 101, 32, 105, 110, 112, 117, 116, 32, 115, 112, 108, 105, 116, 32, 109, 101, 114, 103, 101, 32, 116, 114, 117, 101, 32, 102, 97, 108, 115, 101]⟩ : ByteArray))]) [(false, 1)] [.sl true 9 1 (List.map strc (keys))] [] := by
  have h := Trip.row1 (P := Tryd.prog) (f := 136) (x := .string words) (cs := keys.map .string) (e := 9) ⟨_, Tryd.func136, by decide, by decide⟩ rfl (by intro v hv; obtain ⟨s, _, rfl⟩ := List.mem_map.1 hv; rfl) (by decide) fun W Z hL _ =>
    (Any.strings_Fields_core Tryd.lays157 (by kernel_rfl) words W (by decide) words_ascii (asciiTab hL)).mono fun e w' ⟨h1, h2⟩ => by
      rw [words_fields] at h1 h2
      exact ⟨h1, h2⟩
  exact h
theorem c_isWord (s : ByteArray) : Trip Tryd.prog 124 [(false, 1)] ([.v (.string (s))]) [(false, 1)] [.v (.bool (isKey s))] [] := by
 refine Trip.of Tryd.func124 (by decide) (c := _) rfl rfl (Nat.le_of_ble_eq_true rfl) rfl (AftOk.nil _) <| .seq <| .rs fun k1 => .as rfl <| .z <| .seq <| .rs fun k2 => .c0 (c_Fields ) rfl (.dd .nil) (.frz [3, 0] (Frz.of_erase (erase_slo _ _ _ _ _ _ strc_e)) .nil) rfl <| .mv rfl ?_
 refine .c0 (c_ContainsS keys s) rfl (.dd (.dd .nil)) (.own [5, 0] .nil) rfl <| .as rfl <| .z <| .ret ?_
 exact fin0 (.inr rfl) (.one (svB (show (keys.any fun x => strEq s x) = (isKey s) by exact isKey_eq s)) .nil) (.dd .nil) rfl
theorem c_isName (s : ByteArray) (hs : s.size ≤ 9223372036854775807) : Trip Tryd.prog 99 [(false, 1)] ([.v (.string (s))]) [(false, 1)] [.v (.bool (nmOk s))] [] := by
 refine Trip.of Tryd.func99 (by decide) (c := _) rfl rfl (Nat.le_of_ble_eq_true rfl) rfl (AftOk.nil _) <| .seq <| .rs fun k1 => .as rfl <| .z <| .seq <| .seq <| .rs fun k2 => .mv rfl ?_
 refine .g (fun _ τ => ⟨_, .lenStr (.no rfl) rfl t9 rfl rfl rfl rfl rfl τ⟩) <| .mv rfl <| .z <| .block ?_
 refine .loop (X := Nat) (fun ζ => .of [(0, .one (.d (.v (.string (s))))), (5, .one (.d (.v (.int .i64 ((s.size : Int)))))), (6, .one (.d (.v (.int .i64 ((ζ : Int))))))] []) (fun ζ => ζ ≤ s.size ∧ allTo ζ (fun i => decide (97 ≤ byteAt s i ∧ byteAt s i ≤ 122)) = true) (fun ζ => s.size - ζ) ?_ ?_
 ·skip
  exact .here 0 (.of (.cons rfl (.cons rfl (.cons (svI (show (0) = ((0 : Int)) by first | rfl | omega | exact wrap_le (by omega) (by omega) | (rw [wrap_le (by omega) (by omega)]; omega))) .nil))) .nil) (show 0 ≤ s.size ∧ allTo 0 (fun i => decide (97 ≤ byteAt s i ∧ byteAt s i ≤ 122)) = true by exact ⟨by omega, rfl⟩)
 ·rintro j hI
  have hI : j ≤ s.size ∧ allTo j (fun i => decide (97 ≤ byteAt s i ∧ byteAt s i ≤ 122)) = true := hI
  refine .seq <| .rs fun k3 => .bi rfl <| .z <| .seq ?_
  refine .cond (t := decide ((j : Int) < (s.size : Int))) rfl (fun c0 => ?_) (fun c0 => ?_)
  ·have c0 := of_decide_eq_true c0
   refine .skip <| .seq <| .block <| .seq <| .rs fun k4 => .mv rfl <| .as rfl <| .z <| .seq ?_
   refine .rs fun k5 => .mv rfl <| .mv rfl <| .g (fun _ τ => ⟨_, .indexStr (.no rfl) rfl (z := byteAt s j) (j) t9 rfl rfl rfl rfl rfl (b8_get (by omega)) rfl rfl τ⟩) <| .c0 (c_isLetter (byteAt s j)) rfl (.dd .nil) (.own [12, 0] .nil) rfl <| .un rfl <| .z ?_
   refine .cond (t := !(decide ((byteAt s j) ≥ 97) && decide ((byteAt s j) ≤ 122))) rfl (fun c1 => ?_) (fun c1 => ?_)
   ·have c1 := (nT (aF dF dF)) c1
    refine .seq <| .rs fun k6 => .as rfl <| .z <| .ret ?_
    exact fin0 (.inr rfl) (.one (svB (show (false) = (nmOk s) by (simp only [nmOk, letters]; rw [allTo_fail (j := j) (by omega) (by simp only [decide_eq_false_iff_not]; omega)]; rfl))) .nil) (.dd .nil) rfl
   ·have c1 := (nF (aT dT dT)) c1
    refine .skip <| .rs fun k8 => .bi rfl <| .mv rfl <| .z ?_
    exact .here (j + 1) (.of (.cons rfl (.cons rfl (.cons (svI (show (IntKind.wrap .i64 ((j : Int) + 1)) = (((j + 1) : Int)) by first | rfl | omega | exact wrap_le (by omega) (by omega) | (rw [wrap_le (by omega) (by omega)]; omega))) .nil))) .nil) ⟨(show (j + 1) ≤ s.size ∧ allTo (j + 1) (fun i => decide (97 ≤ byteAt s i ∧ byteAt s i ≤ 122)) = true by exact ⟨by omega, allTo_step hI.2 (by simp only [decide_eq_true_eq]; omega)⟩), (show s.size - (j + 1) < s.size - j by omega)⟩
  ·have c0 := of_decide_eq_false c0
   refine .exit <| .seq ?_
   refine .reg (X := Unit) (fun ζ => .of [(2, .one (.d (.v (.bool ((inR (s.size : Int) 1 8 && !(isKey s)))))))] []) [⟨[0], some 15, [], []⟩, ⟨[15], some 16, [], []⟩, ⟨[16], some 17, [], []⟩, ⟨[17], some 18, [], []⟩, ⟨[18, 0], some 19, [], []⟩, ⟨[18, 19], some 20, [], []⟩, ⟨[18, 20], some 21, [], []⟩, ⟨[18, 21], some 22, [], []⟩, ⟨[22], some 2, [], []⟩] (fun k9 => ?_) ?_
   ·skip
    refine .move (.no rfl) rfl rfl rfl rfl <| .lenStr (.no rfl) rfl t9 rfl rfl rfl rfl rfl <| .call (.no rfl) rfl [] [] (c_within (s.size : Int) 1 8) rfl rfl rfl rfl rfl (.dd (.dd (.dd .nil))) rfl rfl (fun h => absurd rfl h) (.own [17, 0] .nil) (.nil) rfl rfl rfl (by simp) rfl rfl rfl <| .moveB (.no rfl) rfl rfl rfl rfl fun b10 g7_3 => ?_
    cases b10
    ·skip
     refine .off rfl rfl rfl rfl rfl rfl rfl <| .off rfl rfl rfl rfl rfl rfl rfl <| .off rfl rfl rfl rfl rfl rfl rfl <| .pick (.no rfl) rfl rfl rfl rfl rfl <| .assign (.no rfl) rfl rfl rfl rfl ?_
     exact .fin () (.of (.cons (svB (show (false) = ((inR (s.size : Int) 1 8 && !(isKey s))) by first | (simp only [g7_3, Bool.true_or, Bool.false_or, Bool.true_and, Bool.false_and, Bool.not_true, Bool.not_false]; done) | simp [g7_3])) .nil) .nil)
    ·skip
     refine .move (.on rfl rfl rfl rfl rfl) rfl rfl rfl rfl <| .call (.on rfl rfl rfl rfl rfl) rfl [] [] (c_isWord s) rfl rfl rfl rfl rfl (.dd .nil) rfl rfl (fun h => absurd rfl h) (.own [20, 0] .nil) (.nil) rfl rfl rfl (by simp) rfl rfl rfl <| .un (.on rfl rfl rfl rfl rfl) rfl rfl rfl rfl rfl <| .pick (.no rfl) rfl rfl rfl rfl rfl <| .assign (.no rfl) rfl rfl rfl rfl ?_
     exact .fin () (.of (.cons (svB (show (!(isKey s)) = ((inR (s.size : Int) 1 8 && !(isKey s))) by first | (simp only [g7_3, Bool.true_or, Bool.false_or, Bool.true_and, Bool.false_and, Bool.not_true, Bool.not_false]; done) | simp [g7_3])) .nil) .nil)
   intro _
   refine .ret ?_
   exact fin0 (.inr rfl) (.one (svB (show ((inR (s.size : Int) 1 8 && !(isKey s))) = (nmOk s) by (have hj : j = s.size := (by omega); subst hj; simp only [nmOk, letters]; rw [hI.2]; rfl))) .nil) (.dd .nil) rfl
theorem c_isRight1 (a : Arr) : Trip Tryd.prog 101 [(true, 2)] (Arr.c a) [(false, 1)] [.v (.bool (inR a.size 1 16))] [] := by
 refine Trip.of Tryd.func101 (by decide) (c := _) rfl rfl (Nat.le_of_ble_eq_true rfl) rfl (AftOk.nil _) <| .seq <| .rs fun k1 => .g (fun _ τ => ⟨_, .box (.no rfl) rfl rfl rfl rfl rfl τ⟩) <| .as rfl <| .z <| .seq <| .rs fun k2 => .fp t48 t2 rfl ?_
 refine .ld t2 rfl (.ptr _ _ _ _ _ rfl) rfl <| .c0 (c_within a.size 1 16) rfl (.dd (.dd (.dd .nil))) (.own [5, 0] .nil) rfl <| .as rfl <| .z <| .ret ?_
 exact fin0 (.inr rfl) (.one rfl .nil) (.dd .nil) rfl
theorem c_isRight (d : Decl) (hs : ∀ x ∈ Decl.names d, x.size ≤ 9223372036854775807) (hb : d.vars.length ≤ 1048576 ∧ d.flags.length ≤ 1048576 ∧ d.arrays.length ≤ 1048576) : Trip Tryd.prog 59 [(true, 3)] (Decl.c27 d) [(false, 1)] [.v (.bool (Decl.ok d))] [] := by
 refine Trip.of Tryd.func59 (by decide) (c := _) rfl rfl (Nat.le_of_ble_eq_true rfl) rfl (AftOk.nil _) <| .sla (t := 0) 0 rfl rfl fun hs1l => .sla (t := 0) 1 rfl rfl fun hs2l => .sla (t := 0) 2 rfl rfl fun hs3l => .seq <| .rs fun k4 => .g (fun _ τ => ⟨_, .box (.no rfl) rfl rfl rfl rfl rfl τ⟩) <| .as rfl <| .z ?_
 refine .seq <| .rs fun k5 => .lda t27 rfl (.ptr _ _ _ _ _ rfl) rfl <| .c0 (c_names d (by first | assumption | omega | exact hs _ (getD_mem (by omega)))) rfl (.dd (.dd (.dd .nil))) (.frz [8, 0] (Frz.of_erase (erase_slo _ _ _ _ _ _ strc_e)) .nil) rfl <| .as rfl <| .z <| .seq <| .seq <| .rs fun k6 => ?_
 refine .mv rfl <| .g (fun _ τ => ⟨_, .len (.no rfl) rfl (z := ((Decl.names d).length : Int)) t24 rfl rfl rfl (.d _ _) (map_len _ _) rfl τ⟩) <| .mv rfl <| .z <| .block ?_
 refine .loop (X := Nat) (fun ζ => .of [(1, .one (.ptr [1] (k4) 0)), (3, .one (.d (.sl false 9 1 (List.map strc (Decl.names d))))), (9, .one (.d (.sl false 9 1 (List.map strc (Decl.names d))))), (10, .one (.d (.v (.int .i64 (((Decl.names d).length : Int)))))), (11, .one (.d (.v (.int .i64 ((ζ : Int))))))] [([1], (k4, k4, .box [.d (.sl false 9 1 (List.map strc (d.vars))), .d (.sl false 9 1 (List.map strc (d.flags))), .d (.sl false 48 2 (List.map Arr.c (d.arrays)))]))]) (fun ζ => ζ ≤ (Decl.names d).length ∧ allTo ζ (nameOk (Decl.names d)) = true) (fun ζ => (Decl.names d).length - ζ) ?_ ?_
 ·skip
  exact .here 0 (.of (.cons rfl (.cons rfl (.cons rfl (.cons rfl (.cons (svI (show (0) = ((0 : Int)) by first | rfl | omega | exact wrap_le (by omega) (by omega) | (rw [wrap_le (by omega) (by omega)]; omega))) .nil))))) (.r rfl)) (show 0 ≤ (Decl.names d).length ∧ allTo 0 (nameOk (Decl.names d)) = true by exact ⟨by omega, rfl⟩)
 ·rintro j hI
  have hI : j ≤ (Decl.names d).length ∧ allTo j (nameOk (Decl.names d)) = true := hI
  have hn9 : (Decl.names d).length ≤ 3145728 := by simp [Decl.names]; omega
  refine .seq <| .rs fun k7 => .bi rfl <| .z <| .seq ?_
  refine .cond (t := decide ((j : Int) < ((Decl.names d).length : Int))) rfl (fun c0 => ?_) (fun c0 => ?_)
  ·have c0 := of_decide_eq_true c0
   refine .skip <| .seq <| .block <| .seq <| .rs fun k8 => .mv rfl <| .g (fun _ τ => ⟨_, .indexAddr (.no rfl) rfl (j) t24 rfl t9 rfl rfl rfl (.d _ _) rfl rfl rfl (map_get (by omega)) rfl rfl τ⟩) <| .ld t9 rfl (.d _) rfl <| .as rfl ?_
   refine .as rfl <| .z <| .seq ?_
   refine .reg (X := Unit) (fun ζ => .of [(1, .one (.ptr [1] (k4) 0)), (3, .one (.d (.sl false 9 1 (List.map strc (Decl.names d))))), (9, .one (.d (.sl false 9 1 (List.map strc (Decl.names d))))), (10, .one (.d (.v (.int .i64 (((Decl.names d).length : Int)))))), (11, .one (.d (.v (.int .i64 ((j : Int)))))), (25, .one (.d (.v (.bool ((!(nmOk ((Decl.names d).getD (j) default)) || ((Decl.names d).take j).any fun x => strEq ((Decl.names d).getD (j) default) x))))))] [([1], (k4, k4, .box [.d (.sl false 9 1 (List.map strc (d.vars))), .d (.sl false 9 1 (List.map strc (d.flags))), .d (.sl false 48 2 (List.map Arr.c (d.arrays)))]))]) [⟨[5], some 16, [], []⟩, ⟨[16], some 17, [], []⟩, ⟨[17], some 18, [], []⟩, ⟨[18], some 19, [], []⟩, ⟨[19, 3], some 20, [], []⟩, ⟨[19, 4], some 21, [], []⟩, ⟨[19, 20, 21], some 22, [], []⟩, ⟨[19, 5], some 23, [], []⟩, ⟨[19, 22, 23], some 24, [], []⟩, ⟨[19, 24], some 25, [], []⟩] (fun k9 => ?_) ?_
   ·skip
    refine .move (.no rfl) rfl rfl rfl rfl <| .call (.no rfl) rfl [] [] (c_isName ((Decl.names d).getD (j) default) (by first | assumption | omega | exact hs _ (getD_mem (by omega)))) rfl rfl rfl rfl rfl (.dd .nil) rfl rfl (fun h => absurd rfl h) (.own [17, 0] .nil) (.nil) rfl rfl rfl (by simp) rfl rfl rfl <| .un (.no rfl) rfl rfl rfl rfl rfl <| .moveB (.no rfl) rfl rfl rfl rfl fun b10 g5_3 => ?_
    cases b10
    ·skip
     refine .move (.on rfl rfl rfl rfl rfl) rfl rfl rfl rfl <| .move (.on rfl rfl rfl rfl rfl) rfl rfl rfl rfl <| .slice (.on rfl rfl rfl rfl rfl) rfl (lv := 0) (hv := j) (m := 0) t24 rfl t9 rfl rfl (.d _ _) rfl (by intro _ _ h; cases h) (by exact rfl) (by exact ⟨_, rfl⟩) (Nat.zero_le _) (le_map (by omega)) (cut_d0 _ _ _ _ _ _ _ _ _) rfl <| .move (.on rfl rfl rfl rfl rfl) rfl rfl rfl rfl <| .call (.on rfl rfl rfl rfl rfl) rfl [] [] (c_ContainsS ((Decl.names d).take j) ((Decl.names d).getD (j) default)) rfl rfl rfl rfl rfl (.dd (.dd .nil)) rfl rfl (fun h => absurd rfl h) (.own [24, 0] .nil) (.nil) rfl rfl rfl (by simp) rfl rfl rfl <| .pick (.no rfl) rfl rfl rfl rfl rfl ?_
     exact .fin () (.of (.cons rfl (.cons rfl (.cons rfl (.cons rfl (.cons rfl (.cons (svB (show (((Decl.names d).take j).any fun x => strEq ((Decl.names d).getD (j) default) x) = ((!(nmOk ((Decl.names d).getD (j) default)) || ((Decl.names d).take j).any fun x => strEq ((Decl.names d).getD (j) default) x)) by first | (simp only [g5_3, Bool.true_or, Bool.false_or, Bool.true_and, Bool.false_and, Bool.not_true, Bool.not_false]; done) | simp [g5_3])) .nil)))))) (.r rfl))
    ·skip
     refine .off rfl rfl rfl rfl rfl rfl rfl <| .off rfl rfl rfl rfl rfl rfl rfl <| .off rfl rfl rfl rfl rfl rfl rfl <| .off rfl rfl rfl rfl rfl rfl rfl <| .off rfl rfl rfl rfl rfl rfl rfl <| .pick (.no rfl) rfl rfl rfl rfl rfl ?_
     exact .fin () (.of (.cons rfl (.cons rfl (.cons rfl (.cons rfl (.cons rfl (.cons (svB (show (true) = ((!(nmOk ((Decl.names d).getD (j) default)) || ((Decl.names d).take j).any fun x => strEq ((Decl.names d).getD (j) default) x)) by first | (simp only [g5_3, Bool.true_or, Bool.false_or, Bool.true_and, Bool.false_and, Bool.not_true, Bool.not_false]; done) | simp [g5_3])) .nil)))))) (.r rfl))
   intro _
   refine .cond (t := (!(nmOk ((Decl.names d).getD (j) default)) || ((Decl.names d).take j).any fun x => strEq ((Decl.names d).getD (j) default) x)) rfl (fun c1 => ?_) (fun c1 => ?_)
   ·have c1 := (oT (nT id) id) c1
    refine .seq <| .rs fun k11 => .as rfl <| .z <| .ret ?_
    exact fin0 (.inr rfl) (.one (svB (show (false) = (Decl.ok d) by exact (Decl.ok_name2 (j := j) (by omega) c1).symm)) .nil) (.dd .nil) rfl
   ·have c1 := (oF (nF id) id) c1
    refine .skip <| .rs fun k13 => .bi rfl <| .mv rfl <| .z ?_
    exact .here (j + 1) (.of (.cons rfl (.cons rfl (.cons rfl (.cons rfl (.cons (svI (show (IntKind.wrap .i64 ((j : Int) + 1)) = (((j + 1) : Int)) by first | rfl | omega | exact wrap_le (by omega) (by omega) | (rw [wrap_le (by omega) (by omega)]; omega))) .nil))))) (.r rfl)) ⟨(show (j + 1) ≤ (Decl.names d).length ∧ allTo (j + 1) (nameOk (Decl.names d)) = true by exact ⟨by omega, allTo_step hI.2 (nameOk_of2 c1)⟩), (show (Decl.names d).length - (j + 1) < (Decl.names d).length - j by omega)⟩
  ·have c0 := of_decide_eq_false c0
   refine .exit <| .seq <| .rs fun k14 => .as rfl <| .z <| .seq ?_
   refine .reg (X := Unit) (fun ζ => .of [(2, .one (.d (.v (.bool ((((decide ((d.vars.length : Int) ≤ 5) && decide ((d.flags.length : Int) ≤ 3)) && decide ((d.arrays.length : Int) ≤ 2)) && d.arrays.all (fun x0 => inR x0.size 1 16)))))))] []) [⟨[1], some 27, [], []⟩, ⟨[27], some 28, [[1]], []⟩, ⟨[28], some 29, [], []⟩, ⟨[29], some 30, [], []⟩, ⟨[30], some 31, [], []⟩, ⟨[31, 1], some 32, [], []⟩, ⟨[31, 32], some 33, [[1]], []⟩, ⟨[31, 33], some 34, [], []⟩, ⟨[31, 34], some 35, [], []⟩, ⟨[31, 35], some 36, [], []⟩, ⟨[36], some 37, [], []⟩, ⟨[37, 1], some 38, [], []⟩, ⟨[37, 38], some 39, [[1]], []⟩, ⟨[37, 39], some 40, [], []⟩, ⟨[37, 40], some 41, [], []⟩, ⟨[37, 41], some 42, [], []⟩, ⟨[42], some 43, [], []⟩, ⟨[43, 1], some 44, [], []⟩, ⟨[43, 44], some 45, [[1]], []⟩, ⟨[43, 6], some 46, [], []⟩, ⟨[43, 45, 46], some 47, [], []⟩, ⟨[43, 47], some 48, [], []⟩, ⟨[48], some 2, [], []⟩] (fun k15 => ?_) ?_
   ·skip
    refine .fieldAddrP (.no rfl) rfl t27 rfl rfl t24 rfl rfl rfl rfl <| .load (.no rfl) rfl t24 rfl rfl (.ptr _ _ _ _ _ rfl) rfl rfl rfl rfl <| .len (.no rfl) rfl (z := (d.vars.length : Int)) t24 rfl rfl rfl (.d _ _) (map_len _ _) rfl <| .bin (.no rfl) rfl rfl rfl rfl rfl rfl <| .moveB (.no rfl) rfl rfl rfl rfl fun b16 g9_4 => ?_
    cases b16
    ·skip
     refine .off rfl rfl rfl rfl rfl rfl rfl <| .off rfl rfl rfl rfl rfl rfl rfl <| .off rfl rfl rfl rfl rfl rfl rfl <| .off rfl rfl rfl rfl rfl rfl rfl <| .pick (.no rfl) rfl rfl rfl rfl rfl <| .move (.no rfl) rfl rfl rfl rfl <| .off rfl rfl rfl rfl rfl rfl rfl <| .off rfl rfl rfl rfl rfl rfl rfl <| .off rfl rfl rfl rfl rfl rfl rfl ?_
     refine .off rfl rfl rfl rfl rfl rfl rfl <| .pick (.no rfl) rfl rfl rfl rfl rfl <| .move (.no rfl) rfl rfl rfl rfl <| .off rfl rfl rfl rfl rfl rfl rfl <| .off rfl rfl rfl rfl rfl rfl rfl <| .off rfl rfl rfl rfl rfl rfl rfl <| .off rfl rfl rfl rfl rfl rfl rfl <| .pick (.no rfl) rfl rfl rfl rfl rfl <| .assign (.no rfl) rfl rfl rfl rfl ?_
     exact .fin () (.of (.cons (svB (show (false) = ((((decide ((d.vars.length : Int) ≤ 5) && decide ((d.flags.length : Int) ≤ 3)) && decide ((d.arrays.length : Int) ≤ 2)) && d.arrays.all (fun x0 => inR x0.size 1 16))) by first | (simp only [g9_4, Bool.true_or, Bool.false_or, Bool.true_and, Bool.false_and, Bool.not_true, Bool.not_false]; done) | simp [g9_4])) .nil) .nil)
    ·skip
     refine .fieldAddrP (.on rfl rfl rfl rfl rfl) rfl t27 rfl rfl t24 rfl rfl rfl rfl <| .load (.on rfl rfl rfl rfl rfl) rfl t24 rfl rfl (.ptr _ _ _ _ _ rfl) rfl rfl rfl rfl <| .len (.on rfl rfl rfl rfl rfl) rfl (z := (d.flags.length : Int)) t24 rfl rfl rfl (.d _ _) (map_len _ _) rfl <| .bin (.on rfl rfl rfl rfl rfl) rfl rfl rfl rfl rfl rfl <| .pick (.no rfl) rfl rfl rfl rfl rfl <| .moveB (.no rfl) rfl rfl rfl rfl fun b17 g9_10 => ?_
     cases b17
     ·skip
      refine .off rfl rfl rfl rfl rfl rfl rfl <| .off rfl rfl rfl rfl rfl rfl rfl <| .off rfl rfl rfl rfl rfl rfl rfl <| .off rfl rfl rfl rfl rfl rfl rfl <| .pick (.no rfl) rfl rfl rfl rfl rfl <| .move (.no rfl) rfl rfl rfl rfl <| .off rfl rfl rfl rfl rfl rfl rfl <| .off rfl rfl rfl rfl rfl rfl rfl <| .off rfl rfl rfl rfl rfl rfl rfl ?_
      refine .off rfl rfl rfl rfl rfl rfl rfl <| .pick (.no rfl) rfl rfl rfl rfl rfl <| .assign (.no rfl) rfl rfl rfl rfl ?_
      exact .fin () (.of (.cons (svB (show (false) = ((((decide ((d.vars.length : Int) ≤ 5) && decide ((d.flags.length : Int) ≤ 3)) && decide ((d.arrays.length : Int) ≤ 2)) && d.arrays.all (fun x0 => inR x0.size 1 16))) by first | (simp only [g9_4, g9_10, Bool.true_or, Bool.false_or, Bool.true_and, Bool.false_and, Bool.not_true, Bool.not_false]; done) | simp [g9_4, g9_10])) .nil) .nil)
     ·skip
      refine .fieldAddrP (.on rfl rfl rfl rfl rfl) rfl t27 rfl rfl t25 rfl rfl rfl rfl <| .load (.on rfl rfl rfl rfl rfl) rfl t25 rfl rfl (.ptr _ _ _ _ _ rfl) rfl rfl rfl rfl <| .len (.on rfl rfl rfl rfl rfl) rfl (z := (d.arrays.length : Int)) t25 rfl rfl rfl (.d _ _) (map_len _ _) rfl <| .bin (.on rfl rfl rfl rfl rfl) rfl rfl rfl rfl rfl rfl <| .pick (.no rfl) rfl rfl rfl rfl rfl <| .moveB (.no rfl) rfl rfl rfl rfl fun b18 g9_16 => ?_
      cases b18
      ·skip
       refine .off rfl rfl rfl rfl rfl rfl rfl <| .off rfl rfl rfl rfl rfl rfl rfl <| .off rfl rfl rfl rfl rfl rfl rfl <| .off rfl rfl rfl rfl rfl rfl rfl <| .pick (.no rfl) rfl rfl rfl rfl rfl <| .assign (.no rfl) rfl rfl rfl rfl ?_
       exact .fin () (.of (.cons (svB (show (false) = ((((decide ((d.vars.length : Int) ≤ 5) && decide ((d.flags.length : Int) ≤ 3)) && decide ((d.arrays.length : Int) ≤ 2)) && d.arrays.all (fun x0 => inR x0.size 1 16))) by first | (simp only [g9_4, g9_10, g9_16, Bool.true_or, Bool.false_or, Bool.true_and, Bool.false_and, Bool.not_true, Bool.not_false]; done) | simp [g9_4, g9_10, g9_16])) .nil) .nil)
      ·skip
       refine .fieldAddrP (.on rfl rfl rfl rfl rfl) rfl t27 rfl rfl t25 rfl rfl rfl rfl <| .load (.on rfl rfl rfl rfl rfl) rfl t25 rfl rfl (.ptr _ _ _ _ _ rfl) rfl rfl rfl rfl <| .move (.on rfl rfl rfl rfl rfl) rfl rfl rfl rfl <| .call (.on rfl rfl rfl rfl rfl) rfl [] [] (c_areAllA d.arrays 101 [] [] (fun x0 => inR x0.size 1 16) (fun x0 => c_isRight1 x0)) rfl rfl rfl rfl rfl (.dd (.dd .nil)) rfl rfl (fun h => absurd rfl h) (.own [47, 0] .nil) (.nil) rfl rfl rfl (by simp) rfl rfl rfl <| .pick (.no rfl) rfl rfl rfl rfl rfl <| .assign (.no rfl) rfl rfl rfl rfl ?_
       exact .fin () (.of (.cons (svB (show (d.arrays.all (fun x0 => inR x0.size 1 16)) = ((((decide ((d.vars.length : Int) ≤ 5) && decide ((d.flags.length : Int) ≤ 3)) && decide ((d.arrays.length : Int) ≤ 2)) && d.arrays.all (fun x0 => inR x0.size 1 16))) by first | (simp only [g9_4, g9_10, g9_16, Bool.true_or, Bool.false_or, Bool.true_and, Bool.false_and, Bool.not_true, Bool.not_false]; done) | simp [g9_4, g9_10, g9_16])) .nil) .nil)
   intro _
   refine .ret ?_
   exact fin0 (.inr rfl) (.one (svB (show ((((decide ((d.vars.length : Int) ≤ 5) && decide ((d.flags.length : Int) ≤ 3)) && decide ((d.arrays.length : Int) ≤ 2)) && d.arrays.all (fun x0 => inR x0.size 1 16))) = (Decl.ok d) by exact Decl.ok_right (j := j) (by omega) hI.2)) .nil) (.dd .nil) rfl
theorem c_isEnv (d : Decl) (e : Env) : Trip Tryd.prog 60 [(true, 3), (true, 3)] (Decl.c27 d ++ Env.c30 e) [(false, 1)] [.v (.bool (Env.okIn d e))] [] := by
 refine Trip.of Tryd.func60 (by decide) (c := _) rfl rfl (Nat.le_of_ble_eq_true rfl) rfl (AftOk.nil _) <| .sla (t := 0) 0 rfl rfl fun hs1l => .sla (t := 0) 1 rfl rfl fun hs2l => .sla (t := 0) 2 rfl rfl fun hs3l => .sla (t := 1) 1 rfl rfl fun hs4l => .sla (t := 1) 2 rfl rfl fun hs5l => .seq <| .rs fun k6 => .g (fun _ τ => ⟨_, .box (.no rfl) rfl rfl rfl rfl rfl τ⟩) ?_
 refine .g (fun _ τ => ⟨_, .box (.no rfl) rfl rfl rfl rfl rfl τ⟩) <| .as rfl <| .z <| .seq <| .seq <| .rs fun k7 => .fp t30 t4 rfl <| .ld t4 rfl (.ptr _ _ _ _ _ rfl) rfl <| .un rfl ?_
 refine .z ?_
 refine .cond (t := !e.live) rfl (fun c0 => ?_) (fun c0 => ?_)
 ·have c0 := (nT id) c0
  refine .seq ?_
  refine .reg (X := Unit) (fun ζ => .of [(4, .one (.d (.v (.bool (((e.ints.length : Int) == 0 && (e.arrs.length : Int) == 0))))))] []) [⟨[3], some 8, [], []⟩, ⟨[8], some 9, [[3]], []⟩, ⟨[9], some 10, [], []⟩, ⟨[10], some 11, [], []⟩, ⟨[11], some 12, [], []⟩, ⟨[12, 3], some 13, [], []⟩, ⟨[12, 13], some 14, [[3]], []⟩, ⟨[12, 14], some 15, [], []⟩, ⟨[12, 15], some 16, [], []⟩, ⟨[12, 16], some 17, [], []⟩, ⟨[17], some 4, [], []⟩] (fun k8 => ?_) ?_
  ·skip
   refine .fieldAddrP (.no rfl) rfl t30 rfl rfl t28 rfl rfl rfl rfl <| .load (.no rfl) rfl t28 rfl rfl (.ptr _ _ _ _ _ rfl) rfl rfl rfl rfl <| .len (.no rfl) rfl (z := (e.ints.length : Int)) t28 rfl rfl rfl (.d _ _) (map_len _ _) rfl <| .bin (.no rfl) rfl rfl rfl rfl rfl rfl <| .moveB (.no rfl) rfl rfl rfl rfl fun b9 g2_4 => ?_
   cases b9
   ·skip
    refine .off rfl rfl rfl rfl rfl rfl rfl <| .off rfl rfl rfl rfl rfl rfl rfl <| .off rfl rfl rfl rfl rfl rfl rfl <| .off rfl rfl rfl rfl rfl rfl rfl <| .pick (.no rfl) rfl rfl rfl rfl rfl <| .assign (.no rfl) rfl rfl rfl rfl ?_
    exact .fin () (.of (.cons (svB (show (false) = (((e.ints.length : Int) == 0 && (e.arrs.length : Int) == 0)) by first | (simp only [g2_4, Bool.true_or, Bool.false_or, Bool.true_and, Bool.false_and, Bool.not_true, Bool.not_false]; done) | simp [g2_4])) .nil) .nil)
   ·skip
    refine .fieldAddrP (.on rfl rfl rfl rfl rfl) rfl t30 rfl rfl t28 rfl rfl rfl rfl <| .load (.on rfl rfl rfl rfl rfl) rfl t28 rfl rfl (.ptr _ _ _ _ _ rfl) rfl rfl rfl rfl <| .len (.on rfl rfl rfl rfl rfl) rfl (z := (e.arrs.length : Int)) t28 rfl rfl rfl (.d _ _) (map_len _ _) rfl <| .bin (.on rfl rfl rfl rfl rfl) rfl rfl rfl rfl rfl rfl <| .pick (.no rfl) rfl rfl rfl rfl rfl <| .assign (.no rfl) rfl rfl rfl rfl ?_
    exact .fin () (.of (.cons (svB (show ((e.arrs.length : Int) == 0) = (((e.ints.length : Int) == 0 && (e.arrs.length : Int) == 0)) by first | (simp only [g2_4, Bool.true_or, Bool.false_or, Bool.true_and, Bool.false_and, Bool.not_true, Bool.not_false]; done) | simp [g2_4])) .nil) .nil)
  intro _
  refine .ret ?_
  exact fin0 (.inr rfl) (.one (svB (show (((e.ints.length : Int) == 0 && (e.arrs.length : Int) == 0)) = (Env.okIn d e) by simp [Env.okIn, c0, Bool.and_assoc])) .nil) (.dd .nil) rfl
 ·have c0 := (nF id) c0
  refine .skip <| .seq ?_
  refine .reg (X := Unit) (fun ζ => .of [(4, .one (.d (.v (.bool (((((e.ints.length : Int) == (d.vars.length : Int) && (e.arrs.length : Int) == (d.arrays.length : Int)) && e.ints.all (fun x0 => Iv.ok x0)) && e.arrs.all (fun x0 => Iv.ok x0)))))))] []) [⟨[3], some 18, [], []⟩, ⟨[18], some 19, [[3]], []⟩, ⟨[19], some 20, [], []⟩, ⟨[2], some 21, [], []⟩, ⟨[21], some 22, [[2]], []⟩, ⟨[22], some 23, [], []⟩, ⟨[20, 23], some 24, [], []⟩, ⟨[24], some 25, [], []⟩, ⟨[25, 3], some 26, [], []⟩, ⟨[25, 26], some 27, [[3]], []⟩, ⟨[25, 27], some 28, [], []⟩, ⟨[25, 2], some 29, [], []⟩, ⟨[25, 29], some 30, [[2]], []⟩, ⟨[25, 30], some 31, [], []⟩, ⟨[25, 28, 31], some 32, [], []⟩, ⟨[25, 32], some 33, [], []⟩, ⟨[33], some 34, [], []⟩, ⟨[34, 3], some 35, [], []⟩, ⟨[34, 35], some 36, [[3]], []⟩, ⟨[34, 36], some 37, [], []⟩, ⟨[34, 37], some 38, [], []⟩, ⟨[38], some 39, [], []⟩, ⟨[39, 3], some 40, [], []⟩, ⟨[39, 40], some 41, [[3]], []⟩, ⟨[39, 41], some 42, [], []⟩, ⟨[39, 42], some 43, [], []⟩, ⟨[43], some 4, [], []⟩] (fun k11 => ?_) ?_
  ·skip
   refine .fieldAddrP (.no rfl) rfl t30 rfl rfl t28 rfl rfl rfl rfl <| .load (.no rfl) rfl t28 rfl rfl (.ptr _ _ _ _ _ rfl) rfl rfl rfl rfl <| .len (.no rfl) rfl (z := (e.ints.length : Int)) t28 rfl rfl rfl (.d _ _) (map_len _ _) rfl <| .fieldAddrP (.no rfl) rfl t27 rfl rfl t24 rfl rfl rfl rfl <| .load (.no rfl) rfl t24 rfl rfl (.ptr _ _ _ _ _ rfl) rfl rfl rfl rfl <| .len (.no rfl) rfl (z := (d.vars.length : Int)) t24 rfl rfl rfl (.d _ _) (map_len _ _) rfl <| .bin (.no rfl) rfl rfl rfl rfl rfl rfl <| .moveB (.no rfl) rfl rfl rfl rfl fun b12 g3_7 => ?_
   cases b12
   ·skip
    refine .off rfl rfl rfl rfl rfl rfl rfl <| .off rfl rfl rfl rfl rfl rfl rfl <| .off rfl rfl rfl rfl rfl rfl rfl <| .off rfl rfl rfl rfl rfl rfl rfl <| .off rfl rfl rfl rfl rfl rfl rfl <| .off rfl rfl rfl rfl rfl rfl rfl <| .off rfl rfl rfl rfl rfl rfl rfl <| .pick (.no rfl) rfl rfl rfl rfl rfl <| .move (.no rfl) rfl rfl rfl rfl ?_
    refine .off rfl rfl rfl rfl rfl rfl rfl <| .off rfl rfl rfl rfl rfl rfl rfl <| .off rfl rfl rfl rfl rfl rfl rfl <| .pick (.no rfl) rfl rfl rfl rfl rfl <| .move (.no rfl) rfl rfl rfl rfl <| .off rfl rfl rfl rfl rfl rfl rfl <| .off rfl rfl rfl rfl rfl rfl rfl <| .off rfl rfl rfl rfl rfl rfl rfl <| .pick (.no rfl) rfl rfl rfl rfl rfl ?_
    refine .assign (.no rfl) rfl rfl rfl rfl ?_
    exact .fin () (.of (.cons (svB (show (false) = (((((e.ints.length : Int) == (d.vars.length : Int) && (e.arrs.length : Int) == (d.arrays.length : Int)) && e.ints.all (fun x0 => Iv.ok x0)) && e.arrs.all (fun x0 => Iv.ok x0))) by first | (simp only [g3_7, Bool.true_or, Bool.false_or, Bool.true_and, Bool.false_and, Bool.not_true, Bool.not_false]; done) | simp [g3_7])) .nil) .nil)
   ·skip
    refine .fieldAddrP (.on rfl rfl rfl rfl rfl) rfl t30 rfl rfl t28 rfl rfl rfl rfl <| .load (.on rfl rfl rfl rfl rfl) rfl t28 rfl rfl (.ptr _ _ _ _ _ rfl) rfl rfl rfl rfl <| .len (.on rfl rfl rfl rfl rfl) rfl (z := (e.arrs.length : Int)) t28 rfl rfl rfl (.d _ _) (map_len _ _) rfl <| .fieldAddrP (.on rfl rfl rfl rfl rfl) rfl t27 rfl rfl t25 rfl rfl rfl rfl <| .load (.on rfl rfl rfl rfl rfl) rfl t25 rfl rfl (.ptr _ _ _ _ _ rfl) rfl rfl rfl rfl <| .len (.on rfl rfl rfl rfl rfl) rfl (z := (d.arrays.length : Int)) t25 rfl rfl rfl (.d _ _) (map_len _ _) rfl <| .bin (.on rfl rfl rfl rfl rfl) rfl rfl rfl rfl rfl rfl <| .pick (.no rfl) rfl rfl rfl rfl rfl <| .moveB (.no rfl) rfl rfl rfl rfl fun b13 g3_16 => ?_
    cases b13
    ·skip
     refine .off rfl rfl rfl rfl rfl rfl rfl <| .off rfl rfl rfl rfl rfl rfl rfl <| .off rfl rfl rfl rfl rfl rfl rfl <| .pick (.no rfl) rfl rfl rfl rfl rfl <| .move (.no rfl) rfl rfl rfl rfl <| .off rfl rfl rfl rfl rfl rfl rfl <| .off rfl rfl rfl rfl rfl rfl rfl <| .off rfl rfl rfl rfl rfl rfl rfl <| .pick (.no rfl) rfl rfl rfl rfl rfl ?_
     refine .assign (.no rfl) rfl rfl rfl rfl ?_
     exact .fin () (.of (.cons (svB (show (false) = (((((e.ints.length : Int) == (d.vars.length : Int) && (e.arrs.length : Int) == (d.arrays.length : Int)) && e.ints.all (fun x0 => Iv.ok x0)) && e.arrs.all (fun x0 => Iv.ok x0))) by first | (simp only [g3_7, g3_16, Bool.true_or, Bool.false_or, Bool.true_and, Bool.false_and, Bool.not_true, Bool.not_false]; done) | simp [g3_7, g3_16])) .nil) .nil)
    ·skip
     refine .fieldAddrP (.on rfl rfl rfl rfl rfl) rfl t30 rfl rfl t28 rfl rfl rfl rfl <| .load (.on rfl rfl rfl rfl rfl) rfl t28 rfl rfl (.ptr _ _ _ _ _ rfl) rfl rfl rfl rfl <| .call (.on rfl rfl rfl rfl rfl) rfl [] [] (c_areAllI e.ints 86 [] [] (fun x0 => Iv.ok x0) (fun x0 => c_IvOk x0)) rfl rfl rfl rfl rfl (.dd (.dd .nil)) rfl rfl (fun h => absurd rfl h) (.own [37, 0] .nil) (.nil) rfl rfl rfl (by simp) rfl rfl rfl <| .pick (.no rfl) rfl rfl rfl rfl rfl <| .moveB (.no rfl) rfl rfl rfl rfl fun b14 g3_21 => ?_
     cases b14
     ·skip
      refine .off rfl rfl rfl rfl rfl rfl rfl <| .off rfl rfl rfl rfl rfl rfl rfl <| .off rfl rfl rfl rfl rfl rfl rfl <| .pick (.no rfl) rfl rfl rfl rfl rfl <| .assign (.no rfl) rfl rfl rfl rfl ?_
      exact .fin () (.of (.cons (svB (show (false) = (((((e.ints.length : Int) == (d.vars.length : Int) && (e.arrs.length : Int) == (d.arrays.length : Int)) && e.ints.all (fun x0 => Iv.ok x0)) && e.arrs.all (fun x0 => Iv.ok x0))) by first | (simp only [g3_7, g3_16, g3_21, Bool.true_or, Bool.false_or, Bool.true_and, Bool.false_and, Bool.not_true, Bool.not_false]; done) | simp [g3_7, g3_16, g3_21])) .nil) .nil)
     ·skip
      refine .fieldAddrP (.on rfl rfl rfl rfl rfl) rfl t30 rfl rfl t28 rfl rfl rfl rfl <| .load (.on rfl rfl rfl rfl rfl) rfl t28 rfl rfl (.ptr _ _ _ _ _ rfl) rfl rfl rfl rfl <| .call (.on rfl rfl rfl rfl rfl) rfl [] [] (c_areAllI e.arrs 86 [] [] (fun x0 => Iv.ok x0) (fun x0 => c_IvOk x0)) rfl rfl rfl rfl rfl (.dd (.dd .nil)) rfl rfl (fun h => absurd rfl h) (.own [42, 0] .nil) (.nil) rfl rfl rfl (by simp) rfl rfl rfl <| .pick (.no rfl) rfl rfl rfl rfl rfl <| .assign (.no rfl) rfl rfl rfl rfl ?_
      exact .fin () (.of (.cons (svB (show (e.arrs.all (fun x0 => Iv.ok x0)) = (((((e.ints.length : Int) == (d.vars.length : Int) && (e.arrs.length : Int) == (d.arrays.length : Int)) && e.ints.all (fun x0 => Iv.ok x0)) && e.arrs.all (fun x0 => Iv.ok x0))) by first | (simp only [g3_7, g3_16, g3_21, Bool.true_or, Bool.false_or, Bool.true_and, Bool.false_and, Bool.not_true, Bool.not_false]; done) | simp [g3_7, g3_16, g3_21])) .nil) .nil)
  intro _
  refine .ret ?_
  exact fin0 (.inr rfl) (.one (svB (show (((((e.ints.length : Int) == (d.vars.length : Int) && (e.arrs.length : Int) == (d.arrays.length : Int)) && e.ints.all (fun x0 => Iv.ok x0)) && e.arrs.all (fun x0 => Iv.ok x0))) = (Env.okIn d e) by simp [Env.okIn, c0, Bool.and_assoc])) .nil) (.dd .nil) rfl
end Go.Proofs

namespace Go.Proofs
open Go Go.Proofs Go.Ev

theorem c_CloneI (l : List Iv) (hb : l.length ≤ 2097152) : Trip Tryd.prog 110 [(false, 1)] ([.sl false 32 2 (List.map Iv.c (l))]) [(false, 1)] [.sl true 32 2 (List.map Iv.c (l))] [] := by
 refine Trip.of Tryd.func110 (by decide) (c := _) rfl rfl (Nat.le_of_ble_eq_true rfl) rfl (AftOk.nil _) <| .sl (t := 0) rfl fun hs1l => .seq <| .rs fun k2 => .as rfl <| .z <| .seq <| .seq ?_
 refine .nilEq t28 rfl rfl rfl rfl rfl rfl rfl rfl rfl rfl rfl (fun b3 hb3 => ?_)
 refine .cond (t := b3) rfl (fun c0 => ?_) (fun c0 => ?_)
 ·have c0 := c0
  refine .seq <| .rs fun k4 => .as rfl <| .z <| .ret ?_
  exact fin0 (.inr rfl) (.one rfl .nil) (.cons (Gives.nil' (by first | rfl | simp_all)) .nil) rfl
 ·have c0 := c0
  refine .skip <| .seq <| .rs fun k5 => .g (fun _ τ => ⟨_, .buildSlice (.no rfl) rfl (els := []) t28 rfl z32 rfl rfl rfl rfl rfl rfl rfl rfl (by simp [i32]) .nil rfl rfl rfl τ⟩) <| .mv rfl <| .g (fun _ τ => ⟨_, .append (.no rfl) rfl (l3 := List.map Iv.c (l)) t28 rfl z32 rfl rfl rfl rfl rfl rfl rfl rfl (.ref _ _ _ _ rfl) (.ro _ _) rfl (by simp [i32]; omega) (List.nil_append _) rfl rfl τ⟩) <| .as rfl <| .z <| .ret ?_
  exact fin1 (.inr rfl) [] [([5], (k5 + 1 + 1, k5 + 1 + 1, .row 32 2 (List.map Iv.c (l))))] (.one rfl .nil) (.cons (.ref (.head _)) .nil) rfl rfl (.r rfl)
theorem c_own (e : Env) (hb : e.ints.length ≤ 1048576 ∧ e.arrs.length ≤ 1048576) : Trip Tryd.prog 74 [(true, 3)] (Env.c30 e) [(true, 3)] [.v (.bool (e.live)), .sl true 32 2 (List.map Iv.c (e.ints)), .sl true 32 2 (List.map Iv.c (e.arrs))] [] := by
 refine Trip.of Tryd.func74 (by decide) (c := _) rfl rfl (Nat.le_of_ble_eq_true rfl) rfl (AftOk.nil _) <| .sla (t := 0) 1 rfl rfl fun hs1l => .sla (t := 0) 2 rfl rfl fun hs2l => .seq <| .rs fun k3 => .g (fun _ τ => ⟨_, .box (.no rfl) rfl rfl rfl rfl rfl τ⟩) <| .g (fun _ τ => ⟨_, .alloc (.no rfl) rfl z30 rfl rfl rfl τ⟩) <| .z <| .seq ?_
 refine .regD (X := Nat × Nat × Nat) (by kernel_rfl) (fun ζ => .of [(1, .one (.ptr [1] (k3) 0)), (2, .one (.ptr [2] (k3 + 1) 0))] [([1], (k3, ζ.1, .box [.d (.v (.bool (e.live))), .ref [5, 0] (ζ.2.1), .ref [8, 0] (ζ.2.2)])), ([2], (k3 + 1, k3 + 1, .box [.d (.v (.bool (false))), .d (.v (.slice none 0 0)), .d (.v (.slice none 0 0))])), ([5, 0], (ζ.2.1, ζ.2.1, .row 32 2 (List.map Iv.c (e.ints)))), ([8, 0], (ζ.2.2, ζ.2.2, .row 32 2 (List.map Iv.c (e.arrs))))]) [⟨[1], some 3, [], []⟩, ⟨[3], some 4, [[1]], []⟩, ⟨[4], some 5, [], [[5, 0]]⟩, ⟨[1], some 6, [], []⟩, ⟨[6], some 7, [[1]], []⟩, ⟨[7], some 8, [], [[8, 0]]⟩, ⟨[1], some 9, [], []⟩, ⟨[9, 5], none, [[1]], [[1]]⟩, ⟨[1], some 10, [], []⟩, ⟨[10, 8], none, [[1]], [[1]]⟩] (by kernel_rfl) (fun k4 => ?_) ?_
 ·skip
  refine .fieldAddrP (.no rfl) rfl t30 rfl rfl t28 rfl rfl rfl rfl <| .load (.no rfl) rfl t28 rfl rfl (.ptr _ _ _ _ _ rfl) rfl rfl rfl rfl <| .call (.no rfl) rfl [] [] (c_CloneI e.ints (by omega)) rfl rfl rfl rfl rfl (.dd .nil) rfl rfl (fun h => absurd rfl h) (.own [5, 0] .nil) (.nil) rfl rfl rfl (by simp) rfl rfl rfl <| .fieldAddrP (.no rfl) rfl t30 rfl rfl t28 rfl rfl rfl rfl <| .load (.no rfl) rfl t28 rfl rfl (.ptr _ _ _ _ _ rfl) rfl rfl rfl rfl <| .call (.no rfl) rfl [] [] (c_CloneI e.arrs (by omega)) rfl rfl rfl rfl rfl (.dd .nil) rfl rfl (fun h => absurd rfl h) (.own [8, 0] .nil) (.nil) rfl rfl rfl (by simp) rfl rfl rfl <| .fieldAddrP (.no rfl) rfl t30 rfl rfl t28 rfl rfl rfl rfl <| .store (.no rfl) rfl t28 rfl rfl rfl rfl rfl rfl rfl rfl rfl <| .fieldAddrP (.no rfl) rfl t30 rfl rfl t28 rfl rfl rfl rfl ?_
  refine .store (.no rfl) rfl t28 rfl rfl rfl rfl rfl rfl rfl rfl rfl ?_
  exact .fin (k4 + 1 + 1 + 1 + 1 + 1 + 1 + 1 + 1 + 1, k4 + 1 + 1, k4 + 1 + 1 + 1 + 1 + 1) (.of (.r rfl) (.r rfl))
 rintro ⟨g5, g6, g7⟩
 refine .seq <| .rs fun k8 => .lda t30 rfl (.ptr _ _ _ _ _ rfl) rfl <| .g (fun _ τ => ⟨_, .store (.no rfl) rfl t30 rfl rfl rfl rfl rfl rfl rfl rfl rfl τ⟩) <| .z <| .ret ?_
 exact fin1 (.inr rfl) [] [([5, 0], (g6, g6, .row 32 2 (List.map Iv.c (e.ints)))), ([8, 0], (g7, g7, .row 32 2 (List.map Iv.c (e.arrs))))] (.cell (cells := [.d (.v (.bool (e.live))), .ref [5, 0] (g6), .ref [8, 0] (g7)]) rfl rfl t30 rfl rfl .nil) (.dd (.cons (.ref (.head _)) (.cons (.ref (.tail _ (.head _))) .nil))) rfl rfl (.r rfl)
end Go.Proofs

namespace Go.Proofs
open Go Go.Proofs Go.Ev

theorem c_sizeS (l : List ByteArray) : Trip Tryd.prog 73 [(false, 1)] ([.sl false 9 1 (List.map strc (l))]) [(false, 1)] [.v (.int .i64 ((l.length : Int)))] [] := by
 refine Trip.of Tryd.func73 (by decide) (c := _) rfl rfl (Nat.le_of_ble_eq_true rfl) rfl (AftOk.nil _) <| .sl (t := 0) rfl fun hs1l => .seq <| .rs fun k2 => .as rfl <| .z <| .seq <| .rs fun k3 => .mv rfl ?_
 refine .g (fun _ τ => ⟨_, .len (.no rfl) rfl (z := (l.length : Int)) t24 rfl rfl rfl (.d _ _) (map_len _ _) rfl τ⟩) <| .as rfl <| .z <| .ret ?_
 exact fin0 (.inr rfl) (.one rfl .nil) (.dd .nil) rfl
end Go.Proofs

namespace Go.Proofs
open Go Go.Proofs Go.Ev

def i56 : TI := ⟨.sl 30, 1, 24, [.slice none 0 0]⟩
theorem t56 : TyOk Tryd.prog 56 i56 := ⟨Tryd.underlying56, by kernel_rfl⟩
theorem z56 : ZOk Tryd.prog 56 i56 := ⟨t56, rfl⟩
def i86 : TI := ⟨.int .u64, 1, 8, [.int .u64 0]⟩
theorem t86 : TyOk Tryd.prog 86 i86 := ⟨Tryd.underlying86, by kernel_rfl⟩
theorem z86 : ZOk Tryd.prog 86 i86 := ⟨t86, rfl⟩
def i96 : TI := ⟨.fn, 1, 8, [.nilFunc]⟩
theorem t96 : TyOk Tryd.prog 96 i96 := ⟨⟨_, _, _, Tryd.underlying96⟩, by kernel_rfl⟩
theorem z96 : ZOk Tryd.prog 96 i96 := ⟨t96, rfl⟩
theorem c_l8Size (d : Decl) : Trip Tryd.prog 78 [(true, 3)] (Decl.c27 d) [(false, 1)] [.v (.int .i64 (leavesOf d))] [] := by
 refine Trip.of Tryd.func78 (by decide) (c := _) rfl rfl (Nat.le_of_ble_eq_true rfl) rfl (AftOk.nil _) <| .sla (t := 0) 0 rfl rfl fun hs1l => .sla (t := 0) 1 rfl rfl fun hs2l => .sla (t := 0) 2 rfl rfl fun hs3l => .seq <| .rs fun k4 => .g (fun _ τ => ⟨_, .box (.no rfl) rfl rfl rfl rfl rfl τ⟩) <| .as rfl <| .z ?_
 refine .seq <| .rs fun k5 => .fp t27 t24 rfl <| .ld t24 rfl (.ptr _ _ _ _ _ rfl) rfl <| .g (fun _ τ => ⟨_, .len (.no rfl) rfl (z := (d.flags.length : Int)) t24 rfl rfl rfl (.d _ _) (map_len _ _) rfl τ⟩) <| .g (fun _ τ => ⟨_, .conv (.no rfl) rfl t3 t86 rfl rfl rfl rfl (wrap_u64 (by omega) (by omega)) rfl τ⟩) <| .g (fun _ τ => ⟨_, .shl (.no rfl) rfl rfl rfl rfl (by omega) rfl rfl τ⟩) <| .as rfl <| .z ?_
 refine .ret ?_
 exact fin0 (.inr rfl) (.one (svI (show (IntKind.wrap .i64 (1 * 2 ^ (min ((d.flags.length : Int)).toNat (IntKind.bits .i64)))) = (leavesOf d) by rfl)) .nil) (.dd .nil) rfl
theorem c_leaves (d : Decl) : Trip Tryd.prog 71 [(true, 3)] (Decl.c27 d) [(false, 1)] [.v (.int .i64 (leavesOf d))] [] := by
 refine Trip.of Tryd.func71 (by decide) (c := _) rfl rfl (Nat.le_of_ble_eq_true rfl) rfl (AftOk.nil _) <| .sla (t := 0) 0 rfl rfl fun hs1l => .sla (t := 0) 1 rfl rfl fun hs2l => .sla (t := 0) 2 rfl rfl fun hs3l => .seq <| .rs fun k4 => .g (fun _ τ => ⟨_, .box (.no rfl) rfl rfl rfl rfl rfl τ⟩) <| .as rfl <| .z ?_
 refine .seq <| .rs fun k5 => .fp t27 t24 rfl <| .ld t24 rfl (.ptr _ _ _ _ _ rfl) rfl <| .g (fun _ τ => ⟨_, .len (.no rfl) rfl (z := (d.flags.length : Int)) t24 rfl rfl rfl (.d _ _) (map_len _ _) rfl τ⟩) <| .g (fun _ τ => ⟨_, .shl (.no rfl) rfl rfl rfl rfl (by omega) rfl rfl τ⟩) <| .as rfl <| .z <| .ret ?_
 exact fin0 (.inr rfl) (.one (svI (show (IntKind.wrap .i64 (1 * 2 ^ (min ((d.flags.length : Int)).toNat (IntKind.bits .i64)))) = (leavesOf d) by rfl)) .nil) (.dd .nil) rfl
theorem c_sizeE (l : List Env) : Trip Tryd.prog 111 [(false, 1)] ([.sl false 30 3 (List.map Env.c30 (l))]) [(false, 1)] [.v (.int .i64 ((l.length : Int)))] [] := by
 refine Trip.of Tryd.func111 (by decide) (c := _) rfl rfl (Nat.le_of_ble_eq_true rfl) rfl (AftOk.nil _) <| .sl (t := 0) rfl fun hs1l => .seq <| .rs fun k2 => .as rfl <| .z <| .seq <| .rs fun k3 => .mv rfl ?_
 refine .g (fun _ τ => ⟨_, .len (.no rfl) rfl (z := (l.length : Int)) t56 rfl rfl rfl (.d _ _) (map_len _ _) rfl τ⟩) <| .as rfl <| .z <| .ret ?_
 exact fin0 (.inr rfl) (.one rfl .nil) (.dd .nil) rfl
theorem c_IndexFuncE (l : List Env) (F_p : FuncId) (first_p : List (Bool × List D)) (caps_p : List D) (p : Env → Bool) (h_p : ∀ (x0 : Env), FnTrip Tryd.prog F_p first_p caps_p [(true, 3)] (Env.c30 x0) [(false, 1)] [.v (.bool (p x0))]) : Trip Tryd.prog 141 [(false, 1), (false, 1)] ([.sl false 30 3 (List.map Env.c30 (l))] ++ [.fn F_p first_p caps_p]) [(false, 1)] [.v (.int .i64 (idx p l))] [] := by
 refine Trip.of Tryd.func141 (by decide) (c := _) rfl rfl (Nat.le_of_ble_eq_true rfl) rfl (AftOk.nil _) <| .sl (t := 0) rfl fun hs1l => .seq <| .rs fun k2 => .as rfl <| .z <| .seq <| .seq <| .rs fun k3 => ?_
 refine .mv rfl <| .g (fun _ τ => ⟨_, .len (.no rfl) rfl (z := (l.length : Int)) t56 rfl rfl rfl (.d _ _) (map_len _ _) rfl τ⟩) <| .mv rfl <| .z <| .block ?_
 refine .loop (X := Nat) (fun ζ => .of [(0, .one (.d (.sl false 30 3 (List.map Env.c30 (l))))), (1, .one (.d (.fn F_p first_p caps_p))), (7, .one (.d (.v (.int .i64 ((l.length : Int)))))), (8, .one (.d (.v (.int .i64 ((ζ : Int))))))] []) (fun ζ => ζ ≤ l.length ∧ allTo ζ (fun i => !p (l.getD i default)) = true) (fun ζ => l.length - ζ) ?_ ?_
 ·skip
  exact .here 0 (.of (.cons rfl (.cons rfl (.cons rfl (.cons (svI (show (0) = ((0 : Int)) by first | rfl | omega | exact wrap_le (by omega) (by omega) | (rw [wrap_le (by omega) (by omega)]; omega))) .nil)))) .nil) (show 0 ≤ l.length ∧ allTo 0 (fun i => !p (l.getD i default)) = true by exact ⟨by omega, rfl⟩)
 ·rintro j hI
  have hI : j ≤ l.length ∧ allTo j (fun i => !p (l.getD i default)) = true := hI
  refine .seq <| .rs fun k4 => .bi rfl <| .z <| .seq ?_
  refine .cond (t := decide ((j : Int) < (l.length : Int))) rfl (fun c0 => ?_) (fun c0 => ?_)
  ·have c0 := of_decide_eq_true c0
   refine .skip <| .seq <| .block <| .seq <| .rs fun k5 => .mv rfl <| .as rfl <| .z <| .seq ?_
   refine .rs fun k6 => .mv rfl <| .mv rfl <| .mv rfl <| .g (fun _ τ => ⟨_, .indexAddr (.no rfl) rfl (j) t56 rfl t30 rfl rfl rfl (.d _ _) rfl rfl rfl (map_get (by omega)) rfl rfl τ⟩) <| .lda t30 rfl (.d _) rfl <| .g (fun _ τ => ⟨_, .callF (.no rfl) rfl (ds := [.v (.bool ((l.getD j default).live)), .sl false 32 2 (List.map Iv.c ((l.getD j default).ints)), .sl false 32 2 (List.map Iv.c ((l.getD j default).arrs))]) (h_p (l.getD j default)) rfl rfl rfl rfl (.own [16, 0] .nil) rfl rfl rfl rfl rfl rfl τ⟩) <| .z ?_
   refine .cond (t := p (l.getD j default)) rfl (fun c1 => ?_) (fun c1 => ?_)
   ·have c1 := c1
    refine .seq <| .rs fun k7 => .mv rfl <| .as rfl <| .z <| .ret ?_
    exact fin0 (.inr rfl) (.one (svI (show ((j : Int)) = (idx p l) by exact (idx_found (j := j) (by omega) hI.2 (by simpa using c1)).symm)) .nil) (.dd .nil) rfl
   ·have c1 := c1
    refine .skip <| .rs fun k9 => .bi rfl <| .mv rfl <| .z ?_
    exact .here (j + 1) (.of (.cons rfl (.cons rfl (.cons rfl (.cons (svI (show (IntKind.wrap .i64 ((j : Int) + 1)) = (((j + 1) : Int)) by first | rfl | omega | exact wrap_le (by omega) (by omega) | (rw [wrap_le (by omega) (by omega)]; omega))) .nil)))) .nil) ⟨(show (j + 1) ≤ l.length ∧ allTo (j + 1) (fun i => !p (l.getD i default)) = true by exact ⟨by omega, allTo_step hI.2 (by simpa using c1)⟩), (show l.length - (j + 1) < l.length - j by omega)⟩
  ·have c0 := of_decide_eq_false c0
   refine .exit <| .seq <| .rs fun k10 => .as rfl <| .z <| .ret ?_
   exact fin0 (.inr rfl) (.one (svI (show (-1) = (idx p l) by exact (idx_none (by omega) hI.2).symm)) .nil) (.dd .nil) rfl
theorem c_ContainsFuncE (l : List Env) (F_p : FuncId) (first_p : List (Bool × List D)) (caps_p : List D) (p : Env → Bool) (h_p : ∀ (x0 : Env), FnTrip Tryd.prog F_p first_p caps_p [(true, 3)] (Env.c30 x0) [(false, 1)] [.v (.bool (p x0))]) : Trip Tryd.prog 131 [(false, 1), (false, 1)] ([.sl false 30 3 (List.map Env.c30 (l))] ++ [.fn F_p first_p caps_p]) [(false, 1)] [.v (.bool (l.any p))] [] := by
 refine Trip.of Tryd.func131 (by decide) (c := _) rfl rfl (Nat.le_of_ble_eq_true rfl) rfl (AftOk.nil _) <| .sl (t := 0) rfl fun hs1l => .seq <| .rs fun k2 => .as rfl <| .z <| .seq <| .rs fun k3 => .mv rfl ?_
 refine .mv rfl <| .c0 (c_IndexFuncE l F_p first_p caps_p p h_p) rfl (.dd (.dd .nil)) (.own [7, 0] .nil) rfl <| .bi rfl <| .as rfl <| .z <| .ret ?_
 exact fin0 (.inr rfl) (.one (svB (show (decide ((idx p l) ≥ 0)) = (l.any p) by exact idx_any _ _)) .nil) (.dd .nil) rfl
theorem c_areAll1E (x : Env) (F_p : FuncId) (first_p : List (Bool × List D)) (caps_p : List D) (p : Env → Bool) (h_p : ∀ (x0 : Env), FnTrip Tryd.prog F_p first_p caps_p [(true, 3)] (Env.c30 x0) [(false, 1)] [.v (.bool (p x0))]) : Trip Tryd.prog 132 [(true, 3), (false, 1)] (Env.c30 x ++ [.pt false [.fn F_p first_p caps_p]]) [(false, 1)] [.v (.bool (!p x))] [] := by
 refine Trip.of Tryd.func132 (by decide) (c := _) rfl rfl (Nat.le_of_ble_eq_true rfl) rfl (AftOk.nil _) <| .sla (t := 0) 1 rfl rfl fun hs1l => .sla (t := 0) 2 rfl rfl fun hs2l => .seq <| .rs fun k3 => .g (fun _ τ => ⟨_, .box (.no rfl) rfl rfl rfl rfl rfl τ⟩) <| .as rfl <| .z <| .seq ?_
 refine .rs fun k4 => .ld t96 rfl (.d _) rfl <| .lda t30 rfl (.ptr _ _ _ _ _ rfl) rfl <| .g (fun _ τ => ⟨_, .callF (.no rfl) rfl (ds := [.v (.bool (x.live)), .sl false 32 2 (List.map Iv.c (x.ints)), .sl false 32 2 (List.map Iv.c (x.arrs))]) (h_p x) rfl rfl rfl rfl (.own [6, 0] .nil) rfl rfl rfl rfl rfl rfl τ⟩) <| .un rfl <| .as rfl <| .z <| .ret ?_
 exact fin0 (.inr rfl) (.one (svB (show (!(p x)) = (!p x) by rfl)) .nil) (.dd .nil) rfl
theorem c_areAllE (l : List Env) (F_p : FuncId) (first_p : List (Bool × List D)) (caps_p : List D) (p : Env → Bool) (h_p : ∀ (x0 : Env), FnTrip Tryd.prog F_p first_p caps_p [(true, 3)] (Env.c30 x0) [(false, 1)] [.v (.bool (p x0))]) : Trip Tryd.prog 112 [(false, 1), (false, 1)] ([.sl false 30 3 (List.map Env.c30 (l))] ++ [.fn F_p first_p caps_p]) [(false, 1)] [.v (.bool (l.all p))] [] := by
 refine Trip.of Tryd.func112 (by decide) (c := _) rfl rfl (Nat.le_of_ble_eq_true rfl) rfl (AftOk.nil _) <| .sl (t := 0) rfl fun hs1l => .seq <| .rs fun k2 => .g (fun _ τ => ⟨_, .box (.no rfl) rfl rfl rfl rfl rfl τ⟩) <| .as rfl <| .z <| .seq <| .rs fun k3 => ?_
 refine .mv rfl <| .g (fun _ τ => ⟨_, .makeFunc (.no rfl) rfl rfl rfl rfl rfl τ⟩) <| .g (fun _ τ => ⟨_, .call (.no rfl) rfl [[3]] [([3], (k2, k2, .box [.d (.fn F_p first_p caps_p)]))] (c_ContainsFuncE l 132 [] [.pt false [.fn F_p first_p caps_p]] (fun x0 => !p x0) (fun x0 => c_areAll1E x0 F_p first_p caps_p p h_p)) rfl rfl rfl rfl rfl (.dd (.cons (Reads.clo0 (.cons (Reads.ptr0 (.head _) (.head _) (.cons (Reads.d _) .nil)) .nil)).gives .nil)) rfl rfl (fun _ => (ownCons (Owned.v _) ownNil)) (.own [7, 0] .nil) (.nil) rfl rfl rfl (AllH.get (.r rfl)) rfl rfl rfl τ⟩) <| .un rfl <| .as rfl <| .z <| .ret ?_
 exact fin0 (.inr rfl) (.one (svB (show (!(l.any (fun x0 => !p x0))) = (l.all p) by exact not_any _ _)) .nil) (.dd .nil) rfl
end Go.Proofs

namespace Go.Proofs
open Go Go.Proofs Go.Ev

theorem c_sTableOk (d : Decl) (t : List Env) (hs : ∀ x ∈ Decl.names d, x.size ≤ 9223372036854775807) (hd : d.vars.length ≤ 1048576 ∧ d.flags.length ≤ 1048576 ∧ d.arrays.length ≤ 1048576) (hx : ∀ x ∈ t, x.ints.length ≤ 1048576 ∧ x.arrs.length ≤ 1048576) : Trip Tryd.prog 30 [(true, 3), (false, 1)] (Decl.c27 d ++ [.sl false 30 3 (List.map Env.c30 (t))]) [(false, 1)] [.v (.bool (Table.ok d t))] [] := by
 refine Trip.of Tryd.func30 (by decide) (c := _) rfl rfl (Nat.le_of_ble_eq_true rfl) rfl (AftOk.nil _) <| .sla (t := 0) 0 rfl rfl fun hs1l => .sla (t := 0) 1 rfl rfl fun hs2l => .sla (t := 0) 2 rfl rfl fun hs3l => .sl (t := 1) rfl fun hs4l => .seq <| .rs fun k5 => .g (fun _ τ => ⟨_, .box (.no rfl) rfl rfl rfl rfl rfl τ⟩) <| .as rfl ?_
 refine .z <| .seq <| .seq ?_
 refine .reg (X := Unit) (fun ζ => .of [(1, .one (.d (.sl false 30 3 (List.map Env.c30 (t))))), (2, .one (.ptr [2] (k5) 0)), (15, .one (.d (.v (.bool ((!(Decl.ok d) || (t.length : Int) != (leavesOf d)))))))] [([2], (k5, k5, .box [.d (.sl false 9 1 (List.map strc (d.vars))), .d (.sl false 9 1 (List.map strc (d.flags))), .d (.sl false 48 2 (List.map Arr.c (d.arrays)))]))]) [⟨[2], some 6, [[2]], []⟩, ⟨[6], some 7, [], []⟩, ⟨[7], some 8, [], []⟩, ⟨[8], some 9, [], []⟩, ⟨[9, 1], some 10, [], []⟩, ⟨[9, 10], some 11, [], []⟩, ⟨[9, 2], some 12, [[2]], []⟩, ⟨[9, 12], some 13, [], []⟩, ⟨[9, 11, 13], some 14, [], []⟩, ⟨[9, 14], some 15, [], []⟩] (fun k6 => ?_) ?_
 ·skip
  refine .load (.no rfl) rfl t27 rfl rfl (.ptr _ _ _ _ _ rfl) rfl rfl rfl rfl <| .call (.no rfl) rfl [] [] (c_sDeclOk d (by first | assumption | exact hx _ (getD_mem (by omega))) (by first | assumption | exact hx _ (getD_mem (by omega)))) rfl rfl rfl rfl rfl (.dd (.dd (.dd .nil))) rfl rfl (fun h => absurd rfl h) (.own [7, 0] .nil) (.nil) rfl rfl rfl (by simp) rfl rfl rfl <| .un (.no rfl) rfl rfl rfl rfl rfl <| .moveB (.no rfl) rfl rfl rfl rfl fun b7 g1_3 => ?_
  cases b7
  ·skip
   refine .move (.on rfl rfl rfl rfl rfl) rfl rfl rfl rfl <| .len (.on rfl rfl rfl rfl rfl) rfl (z := (t.length : Int)) t56 rfl rfl rfl (.d _ _) (map_len _ _) rfl <| .load (.on rfl rfl rfl rfl rfl) rfl t27 rfl rfl (.ptr _ _ _ _ _ rfl) rfl rfl rfl rfl <| .call (.on rfl rfl rfl rfl rfl) rfl [] [] (c_l8Size d) rfl rfl rfl rfl rfl (.dd (.dd (.dd .nil))) rfl rfl (fun h => absurd rfl h) (.own [13, 0] .nil) (.nil) rfl rfl rfl (by simp) rfl rfl rfl <| .bin (.on rfl rfl rfl rfl rfl) rfl rfl rfl rfl rfl rfl <| .pick (.no rfl) rfl rfl rfl rfl rfl ?_
   exact .fin () (.of (.cons rfl (.cons rfl (.cons (svB (show ((t.length : Int) != (leavesOf d)) = ((!(Decl.ok d) || (t.length : Int) != (leavesOf d))) by first | (simp only [g1_3, Bool.true_or, Bool.false_or, Bool.true_and, Bool.false_and, Bool.not_true, Bool.not_false]; done) | simp [g1_3])) .nil))) (.r rfl))
  ·skip
   refine .off rfl rfl rfl rfl rfl rfl rfl <| .off rfl rfl rfl rfl rfl rfl rfl <| .off rfl rfl rfl rfl rfl rfl rfl <| .off rfl rfl rfl rfl rfl rfl rfl <| .off rfl rfl rfl rfl rfl rfl rfl <| .pick (.no rfl) rfl rfl rfl rfl rfl ?_
   exact .fin () (.of (.cons rfl (.cons rfl (.cons (svB (show (true) = ((!(Decl.ok d) || (t.length : Int) != (leavesOf d))) by first | (simp only [g1_3, Bool.true_or, Bool.false_or, Bool.true_and, Bool.false_and, Bool.not_true, Bool.not_false]; done) | simp [g1_3])) .nil))) (.r rfl))
 intro _
 refine .cond (t := (!(Decl.ok d) || (t.length : Int) != (leavesOf d))) rfl (fun c0 => ?_) (fun c0 => ?_)
 ·have c0 := (oT (nT id) bT) c0
  refine .seq <| .rs fun k8 => .as rfl <| .z <| .ret ?_
  exact fin0 (.inr rfl) (.one (svB (show (false) = (Table.ok d t) by (unfold Table.ok Table.isIn; rcases c0 with h | h <;> simp [h]))) .nil) (.dd .nil) rfl
 ·have c0 := (oF (nF id) bF) c0
  refine .skip <| .seq <| .seq <| .rs fun k10 => .as rfl <| .z <| .block ?_
  refine .loop (X := Nat) (fun ζ => .of [(1, .one (.d (.sl false 30 3 (List.map Env.c30 (t))))), (2, .one (.ptr [2] (k5) 0)), (5, .one (.d (.v (.int .i64 ((ζ : Int))))))] [([2], (k5, k5, .box [.d (.sl false 9 1 (List.map strc (d.vars))), .d (.sl false 9 1 (List.map strc (d.flags))), .d (.sl false 48 2 (List.map Arr.c (d.arrays)))]))]) (fun ζ => ζ ≤ t.length ∧ allTo ζ (fun i => Env.okIn d (t.getD i default)) = true) (fun ζ => t.length - ζ) ?_ ?_
  ·skip
   exact .here 0 (.of (.cons rfl (.cons rfl (.cons (svI (show (0) = ((0 : Int)) by first | rfl | omega | exact wrap_le (by omega) (by omega) | (rw [wrap_le (by omega) (by omega)]; omega))) .nil))) (.r rfl)) (show 0 ≤ t.length ∧ allTo 0 (fun i => Env.okIn d (t.getD i default)) = true by exact ⟨by omega, rfl⟩)
  ·rintro j hI
   have hI : j ≤ t.length ∧ allTo j (fun i => Env.okIn d (t.getD i default)) = true := hI
   refine .seq <| .seq <| .rs fun k11 => .mv rfl <| .mv rfl <| .g (fun _ τ => ⟨_, .len (.no rfl) rfl (z := (t.length : Int)) t56 rfl rfl rfl (.d _ _) (map_len _ _) rfl τ⟩) <| .bi rfl <| .z ?_
   refine .cond (t := decide ((j : Int) < (t.length : Int))) rfl (fun c1 => ?_) (fun c1 => ?_)
   ·have c1 := of_decide_eq_true c1
    refine .skip <| .seq <| .block <| .seq ?_
    refine .regD (X := Unit) (by kernel_rfl) (fun ζ => .of [(1, .one (.d (.sl false 30 3 (List.map Env.c30 (t))))), (2, .one (.ptr [2] (k5) 0)), (5, .one (.d (.v (.int .i64 ((j : Int)))))), (28, .one (.d (.v (.bool (!(Decl.ok d && Env.okIn d (t.getD j default)))))))] [([2], (k5, k5, .box [.d (.sl false 9 1 (List.map strc (d.vars))), .d (.sl false 9 1 (List.map strc (d.flags))), .d (.sl false 48 2 (List.map Arr.c (d.arrays)))]))]) [⟨[2], some 22, [[2]], []⟩, ⟨[1], some 23, [], []⟩, ⟨[5], some 24, [], []⟩, ⟨[23, 24], some 25, [], []⟩, ⟨[25], some 26, [], []⟩, ⟨[22, 26], some 27, [], []⟩, ⟨[27], some 28, [], []⟩] (by kernel_rfl) (fun k12 => ?_) ?_
    ·skip
     refine .load (.no rfl) rfl t27 rfl rfl (.ptr _ _ _ _ _ rfl) rfl rfl rfl rfl <| .move (.no rfl) rfl rfl rfl rfl <| .move (.no rfl) rfl rfl rfl rfl <| .indexAddr (.no rfl) rfl (j) t56 rfl t30 rfl rfl rfl (.d _ _) rfl rfl rfl (map_get (by omega)) rfl rfl <| .load (.no rfl) rfl t30 rfl rfl (.d _) rfl rfl rfl rfl <| .call (.no rfl) rfl [] [] (c_sEnvOk d (t.getD j default) (by first | assumption | exact hx _ (getD_mem (by omega))) (by first | assumption | exact hx _ (getD_mem (by omega))) (by first | assumption | exact hx _ (getD_mem (by omega)))) rfl rfl rfl rfl rfl (.dd (.dd (.dd (.dd (.dd (.dd .nil)))))) rfl rfl (fun h => absurd rfl h) (.own [27, 0] .nil) (.nil) rfl rfl rfl (by simp) rfl rfl rfl <| .un (.no rfl) rfl rfl rfl rfl rfl ?_
     exact .fin () (.of (.r rfl) (.r rfl))
    intro _
    refine .cond (t := !(Decl.ok d && Env.okIn d (t.getD j default))) rfl (fun c2 => ?_) (fun c2 => ?_)
    ·have c2 := (nT (aF id id)) c2
     refine .seq <| .rs fun k13 => .as rfl <| .z <| .ret ?_
     exact fin0 (.inr rfl) (.one (svB (show (false) = (Table.ok d t) by (unfold Table.ok Table.isIn; rw [all_none (p := Env.okIn d) (j := j) (by omega) (by rcases c2 with h | h <;> first | exact h | (rw [c0.1] at h; exact absurd h (by decide))), Bool.and_false, Bool.and_false]))) .nil) (.dd .nil) rfl
    ·have c2 := (nF (aT id id)) c2
     refine .skip <| .rs fun k15 => .mv rfl <| .bi rfl <| .as rfl <| .z ?_
     exact .here (j + 1) (.of (.cons rfl (.cons rfl (.cons (svI (show (IntKind.wrap .i64 ((j : Int) + 1)) = (((j + 1) : Int)) by first | rfl | omega | exact wrap_le (by omega) (by omega) | (rw [wrap_le (by omega) (by omega)]; omega))) .nil))) (.r rfl)) ⟨(show (j + 1) ≤ t.length ∧ allTo (j + 1) (fun i => Env.okIn d (t.getD i default)) = true by exact ⟨by omega, allTo_step hI.2 c2.2⟩), (show t.length - (j + 1) < t.length - j by omega)⟩
   ·have c1 := of_decide_eq_false c1
    refine .exit <| .seq <| .rs fun k16 => .as rfl <| .z <| .ret ?_
    exact fin0 (.inr rfl) (.one (svB (show (true) = (Table.ok d t) by (unfold Table.ok Table.isIn; rw [c0.1, all_done (p := Env.okIn d) (j := j) (by omega) hI.2]; simp [c0.2]))) .nil) (.dd .nil) rfl
end Go.Proofs

namespace Go.Proofs
open Go Go.Proofs Go.Ev

theorem c_isTable (d : Decl) (t : List Env) : Trip Tryd.prog 75 [(true, 3), (false, 1)] (Decl.c27 d ++ [.sl false 30 3 (List.map Env.c30 (t))]) [(false, 1)] [.v (.bool (Table.isIn d t))] [] := by
 refine Trip.of Tryd.func75 (by decide) (c := _) rfl rfl (Nat.le_of_ble_eq_true rfl) rfl (AftOk.nil _) <| .sla (t := 0) 0 rfl rfl fun hs1l => .sla (t := 0) 1 rfl rfl fun hs2l => .sla (t := 0) 2 rfl rfl fun hs3l => .sl (t := 1) rfl fun hs4l => .seq <| .rs fun k5 => .g (fun _ τ => ⟨_, .box (.no rfl) rfl rfl rfl rfl rfl τ⟩) <| .as rfl ?_
 refine .z <| .seq ?_
 refine .regD (X := Unit) (by kernel_rfl) (fun ζ => .of [(4, .one (.d (.v (.bool (((t.length : Int) == (leavesOf d) && t.all (fun x0 => Env.okIn d x0)))))))] []) [⟨[1], some 5, [], []⟩, ⟨[5], some 6, [], []⟩, ⟨[2], some 7, [[2]], []⟩, ⟨[7], some 8, [], []⟩, ⟨[6, 8], some 9, [], []⟩, ⟨[9], some 10, [], []⟩, ⟨[10, 1], some 11, [], []⟩, ⟨[10, 2], some 12, [[2]], []⟩, ⟨[10, 12], some 13, [], []⟩, ⟨[10, 11, 13], some 14, [], []⟩, ⟨[10, 14], some 15, [], []⟩, ⟨[15], some 4, [], []⟩] (by kernel_rfl) (fun k6 => ?_) ?_
 ·skip
  refine .move (.no rfl) rfl rfl rfl rfl <| .call (.no rfl) rfl [] [] (c_sizeE t) rfl rfl rfl rfl rfl (.dd .nil) rfl rfl (fun h => absurd rfl h) (.own [6, 0] .nil) (.nil) rfl rfl rfl (by simp) rfl rfl rfl <| .load (.no rfl) rfl t27 rfl rfl (.ptr _ _ _ _ _ rfl) rfl rfl rfl rfl <| .call (.no rfl) rfl [] [] (c_leaves d) rfl rfl rfl rfl rfl (.dd (.dd (.dd .nil))) rfl rfl (fun h => absurd rfl h) (.own [8, 0] .nil) (.nil) rfl rfl rfl (by simp) rfl rfl rfl <| .bin (.no rfl) rfl rfl rfl rfl rfl rfl <| .moveB (.no rfl) rfl rfl rfl rfl fun b7 g1_5 => ?_
  cases b7
  ·skip
   refine .off rfl rfl rfl rfl rfl rfl rfl <| .off rfl rfl rfl rfl rfl rfl rfl <| .off rfl rfl rfl rfl rfl rfl rfl <| .off rfl rfl rfl rfl rfl rfl rfl <| .pick (.no rfl) rfl rfl rfl rfl rfl <| .assign (.no rfl) rfl rfl rfl rfl ?_
   exact .fin () (.of (.cons (svB (show (false) = (((t.length : Int) == (leavesOf d) && t.all (fun x0 => Env.okIn d x0))) by first | (simp only [g1_5, Bool.true_or, Bool.false_or, Bool.true_and, Bool.false_and, Bool.not_true, Bool.not_false]; done) | simp [g1_5])) .nil) .nil)
  ·skip
   refine .move (.on rfl rfl rfl rfl rfl) rfl rfl rfl rfl <| .load (.on rfl rfl rfl rfl rfl) rfl t27 rfl rfl (.ptr _ _ _ _ _ rfl) rfl rfl rfl rfl <| .makeFunc (.on rfl rfl rfl rfl rfl) rfl rfl rfl rfl rfl <| .call (.on rfl rfl rfl rfl rfl) rfl [] [] (c_areAllE t 60 [(true, [.sl false 9 1 (List.map strc (d.vars)), .sl false 9 1 (List.map strc (d.flags)), .sl false 48 2 (List.map Arr.c (d.arrays))])] [] (fun x0 => Env.okIn d x0) (fun x0 => c_isEnv d x0)) rfl rfl rfl rfl rfl (.dd (.cons (Reads.clo1 (.cons (Reads.d _) (.cons (Reads.d _) (.cons (Reads.d _) .nil))) (.nil)).gives .nil)) rfl rfl (fun h => absurd rfl h) (.own [14, 0] .nil) (.nil) rfl rfl rfl (by simp) rfl rfl rfl <| .pick (.no rfl) rfl rfl rfl rfl rfl <| .assign (.no rfl) rfl rfl rfl rfl ?_
   exact .fin () (.of (.cons (svB (show (t.all (fun x0 => Env.okIn d x0)) = (((t.length : Int) == (leavesOf d) && t.all (fun x0 => Env.okIn d x0))) by first | (simp only [g1_5, Bool.true_or, Bool.false_or, Bool.true_and, Bool.false_and, Bool.not_true, Bool.not_false]; done) | simp [g1_5])) .nil) .nil)
 intro _
 refine .ret ?_
 exact fin0 (.inr rfl) (.one (svB (show (((t.length : Int) == (leavesOf d) && t.all (fun x0 => Env.okIn d x0))) = (Table.isIn d t) by rfl)) .nil) (.dd .nil) rfl
theorem c_TableOk (d : Decl) (t : List Env) (hs : ∀ x ∈ Decl.names d, x.size ≤ 9223372036854775807) (hb : d.vars.length ≤ 1048576 ∧ d.flags.length ≤ 1048576 ∧ d.arrays.length ≤ 1048576) : Trip Tryd.prog 68 [(true, 3), (false, 1)] (Decl.c27 d ++ [.sl false 30 3 (List.map Env.c30 (t))]) [(false, 1)] [.v (.bool (Table.ok d t))] [] := by
 refine Trip.of Tryd.func68 (by decide) (c := _) rfl rfl (Nat.le_of_ble_eq_true rfl) rfl (AftOk.nil _) <| .sla (t := 0) 0 rfl rfl fun hs1l => .sla (t := 0) 1 rfl rfl fun hs2l => .sla (t := 0) 2 rfl rfl fun hs3l => .sl (t := 1) rfl fun hs4l => .seq <| .rs fun k5 => .g (fun _ τ => ⟨_, .box (.no rfl) rfl rfl rfl rfl rfl τ⟩) <| .as rfl ?_
 refine .z <| .seq ?_
 refine .reg (X := Unit) (fun ζ => .of [(4, .one (.d (.v (.bool ((Decl.ok d && Table.isIn d t))))))] []) [⟨[2], some 5, [[2]], []⟩, ⟨[5], some 6, [], []⟩, ⟨[6], some 7, [], []⟩, ⟨[7, 2], some 8, [[2]], []⟩, ⟨[7, 1], some 9, [], []⟩, ⟨[7, 8, 9], some 10, [], []⟩, ⟨[7, 10], some 11, [], []⟩, ⟨[11], some 4, [], []⟩] (fun k6 => ?_) ?_
 ·skip
  refine .load (.no rfl) rfl t27 rfl rfl (.ptr _ _ _ _ _ rfl) rfl rfl rfl rfl <| .call (.no rfl) rfl [] [] (c_isRight d (by assumption) (by assumption)) rfl rfl rfl rfl rfl (.dd (.dd (.dd .nil))) rfl rfl (fun h => absurd rfl h) (.own [6, 0] .nil) (.nil) rfl rfl rfl (by simp) rfl rfl rfl <| .moveB (.no rfl) rfl rfl rfl rfl fun b7 g1_2 => ?_
  cases b7
  ·skip
   refine .off rfl rfl rfl rfl rfl rfl rfl <| .off rfl rfl rfl rfl rfl rfl rfl <| .off rfl rfl rfl rfl rfl rfl rfl <| .pick (.no rfl) rfl rfl rfl rfl rfl <| .assign (.no rfl) rfl rfl rfl rfl ?_
   exact .fin () (.of (.cons (svB (show (false) = ((Decl.ok d && Table.isIn d t)) by first | (simp only [g1_2, Bool.true_or, Bool.false_or, Bool.true_and, Bool.false_and, Bool.not_true, Bool.not_false]; done) | simp [g1_2])) .nil) .nil)
  ·skip
   refine .load (.on rfl rfl rfl rfl rfl) rfl t27 rfl rfl (.ptr _ _ _ _ _ rfl) rfl rfl rfl rfl <| .move (.on rfl rfl rfl rfl rfl) rfl rfl rfl rfl <| .call (.on rfl rfl rfl rfl rfl) rfl [] [] (c_isTable d t) rfl rfl rfl rfl rfl (.dd (.dd (.dd (.dd .nil)))) rfl rfl (fun h => absurd rfl h) (.own [10, 0] .nil) (.nil) rfl rfl rfl (by simp) rfl rfl rfl <| .pick (.no rfl) rfl rfl rfl rfl rfl <| .assign (.no rfl) rfl rfl rfl rfl ?_
   exact .fin () (.of (.cons (svB (show (Table.isIn d t) = ((Decl.ok d && Table.isIn d t)) by first | (simp only [g1_2, Bool.true_or, Bool.false_or, Bool.true_and, Bool.false_and, Bool.not_true, Bool.not_false]; done) | simp [g1_2])) .nil) .nil)
 intro _
 refine .ret ?_
 exact fin0 (.inr rfl) (.one (svB (show ((Decl.ok d && Table.isIn d t)) = (Table.ok d t) by rfl)) .nil) (.dd .nil) rfl
end Go.Proofs

namespace Go.Proofs
open Go Go.Proofs Go.Ev

def Node.c111 (x : Node) : List D := [.v (.int .i64 (x.flag)), .v (.int .i64 (x.no)), .v (.int .i64 (x.yes)), .v (.bool (x.e.live)), .sl false 32 2 (List.map Iv.c (x.e.ints)), .sl false 32 2 (List.map Iv.c (x.e.arrs))]
theorem Node.c111_e (x : Node) : (Node.c111 x).map D.erase = Node.c111 x := by simp [Node.c111, D.erase_v, erase_slo _ _ _ _ _ _ Iv.c_e]
def Node.co111 (x : Node) : List D := [.v (.int .i64 (x.flag)), .v (.int .i64 (x.no)), .v (.int .i64 (x.yes)), .v (.bool (x.e.live)), .sl true 32 2 (List.map Iv.c (x.e.ints)), .sl true 32 2 (List.map Iv.c (x.e.arrs))]
theorem Node.co111_e (x : Node) : (Node.co111 x).map D.erase = Node.c111 x := by simp [Node.co111, Node.c111, D.erase_v, erase_slo _ _ _ _ _ _ Iv.c_e]
theorem Node.co111_o (x : Node) : ∀ d ∈ Node.co111 x, Owned d := by simp [Node.co111, Owned.v, Owned.map _ _ _ _ Iv.c_o]
def i59 : TI := ⟨.sl 111, 1, 24, [.slice none 0 0]⟩
theorem t59 : TyOk Tryd.prog 59 i59 := ⟨Tryd.underlying59, by kernel_rfl⟩
theorem z59 : ZOk Tryd.prog 59 i59 := ⟨t59, rfl⟩
def i61 : TI := ⟨.st [(0, 59)], 1, 24, [.slice none 0 0]⟩
theorem t61 : TyOk Tryd.prog 61 i61 := ⟨⟨_, Tryd.underlying61, rfl⟩, by kernel_rfl⟩
theorem z61 : ZOk Tryd.prog 61 i61 := ⟨t61, rfl⟩
theorem p61 : Places Tryd.prog [(0, 59)] [(0, 1)] := by unfold Places; kernel_rfl
def i111 : TI := ⟨.st [(0, 2), (1, 2), (2, 2), (3, 30)], 6, 80, [.int .i64 0, .int .i64 0, .int .i64 0, .bool false, .slice none 0 0, .slice none 0 0]⟩
theorem t111 : TyOk Tryd.prog 111 i111 := ⟨⟨_, Tryd.underlying111, rfl⟩, by kernel_rfl⟩
theorem z111 : ZOk Tryd.prog 111 i111 := ⟨t111, rfl⟩
theorem p111 : Places Tryd.prog [(0, 2), (1, 2), (2, 2), (3, 30)] [(0, 1), (1, 1), (2, 1), (3, 3)] := by unfold Places; kernel_rfl
theorem e32 : Eq2Ok Tryd.prog 32 2 .i64 := ⟨by kernel_rfl, by kernel_rfl, by kernel_rfl, by kernel_rfl, Tryd.underlying2⟩
theorem c_l8Same (a : Env) (b : Env) (hb : a.ints.length ≤ 1048576 ∧ a.arrs.length ≤ 1048576 ∧ b.ints.length ≤ 1048576 ∧ b.arrs.length ≤ 1048576) : Trip Tryd.prog 114 [(true, 3), (true, 3)] (Env.c30 a ++ Env.c30 b) [(false, 1)] [.v (.bool (Env.same a b))] [] := by
 refine Trip.of Tryd.func114 (by decide) (c := _) rfl rfl (Nat.le_of_ble_eq_true rfl) rfl (AftOk.nil _) <| .sla (t := 0) 1 rfl rfl fun hs1l => .sla (t := 0) 2 rfl rfl fun hs2l => .sla (t := 1) 1 rfl rfl fun hs3l => .sla (t := 1) 2 rfl rfl fun hs4l => .seq <| .rs fun k5 => .g (fun _ τ => ⟨_, .box (.no rfl) rfl rfl rfl rfl rfl τ⟩) <| .g (fun _ τ => ⟨_, .box (.no rfl) rfl rfl rfl rfl rfl τ⟩) ?_
 refine .as rfl <| .z <| .seq <| .seq ?_
 refine .reg (X := Unit) (fun ζ => .of [(2, .one (.ptr [2] (k5) 0)), (3, .one (.ptr [3] (k5 + 1) 0)), (30, .one (.d (.v (.bool (((a.live != b.live || (a.ints.length : Int) != (b.ints.length : Int)) || (a.arrs.length : Int) != (b.arrs.length : Int)))))))] [([2], (k5, k5, .box [.d (.v (.bool (a.live))), .d (.sl false 32 2 (List.map Iv.c (a.ints))), .d (.sl false 32 2 (List.map Iv.c (a.arrs)))])), ([3], (k5 + 1, k5 + 1, .box [.d (.v (.bool (b.live))), .d (.sl false 32 2 (List.map Iv.c (b.ints))), .d (.sl false 32 2 (List.map Iv.c (b.arrs)))]))]) [⟨[2], some 8, [], []⟩, ⟨[8], some 9, [[2]], []⟩, ⟨[3], some 10, [], []⟩, ⟨[10], some 11, [[3]], []⟩, ⟨[9, 11], some 12, [], []⟩, ⟨[12], some 13, [], []⟩, ⟨[13, 2], some 14, [], []⟩, ⟨[13, 14], some 15, [[2]], []⟩, ⟨[13, 15], some 16, [], []⟩, ⟨[13, 3], some 17, [], []⟩, ⟨[13, 17], some 18, [[3]], []⟩, ⟨[13, 18], some 19, [], []⟩, ⟨[13, 16, 19], some 20, [], []⟩, ⟨[13, 20], some 21, [], []⟩, ⟨[21], some 22, [], []⟩, ⟨[22, 2], some 23, [], []⟩, ⟨[22, 23], some 24, [[2]], []⟩, ⟨[22, 24], some 25, [], []⟩, ⟨[22, 3], some 26, [], []⟩, ⟨[22, 26], some 27, [[3]], []⟩, ⟨[22, 27], some 28, [], []⟩, ⟨[22, 25, 28], some 29, [], []⟩, ⟨[22, 29], some 30, [], []⟩] (fun k6 => ?_) ?_
 ·skip
  refine .fieldAddrP (.no rfl) rfl t30 rfl rfl t4 rfl rfl rfl rfl <| .load (.no rfl) rfl t4 rfl rfl (.ptr _ _ _ _ _ rfl) rfl rfl rfl rfl <| .fieldAddrP (.no rfl) rfl t30 rfl rfl t4 rfl rfl rfl rfl <| .load (.no rfl) rfl t4 rfl rfl (.ptr _ _ _ _ _ rfl) rfl rfl rfl rfl <| .neB (.no rfl) rfl t4 rfl rfl rfl rfl rfl <| .moveB (.no rfl) rfl rfl rfl rfl fun b7 g1_5 => ?_
  cases b7
  ·skip
   refine .fieldAddrP (.on rfl rfl rfl rfl rfl) rfl t30 rfl rfl t28 rfl rfl rfl rfl <| .load (.on rfl rfl rfl rfl rfl) rfl t28 rfl rfl (.ptr _ _ _ _ _ rfl) rfl rfl rfl rfl <| .len (.on rfl rfl rfl rfl rfl) rfl (z := (a.ints.length : Int)) t28 rfl rfl rfl (.d _ _) (map_len _ _) rfl <| .fieldAddrP (.on rfl rfl rfl rfl rfl) rfl t30 rfl rfl t28 rfl rfl rfl rfl <| .load (.on rfl rfl rfl rfl rfl) rfl t28 rfl rfl (.ptr _ _ _ _ _ rfl) rfl rfl rfl rfl <| .len (.on rfl rfl rfl rfl rfl) rfl (z := (b.ints.length : Int)) t28 rfl rfl rfl (.d _ _) (map_len _ _) rfl <| .bin (.on rfl rfl rfl rfl rfl) rfl rfl rfl rfl rfl rfl <| .pick (.no rfl) rfl rfl rfl rfl rfl <| .moveB (.no rfl) rfl rfl rfl rfl fun b8 g1_14 => ?_
   cases b8
   ·skip
    refine .fieldAddrP (.on rfl rfl rfl rfl rfl) rfl t30 rfl rfl t28 rfl rfl rfl rfl <| .load (.on rfl rfl rfl rfl rfl) rfl t28 rfl rfl (.ptr _ _ _ _ _ rfl) rfl rfl rfl rfl <| .len (.on rfl rfl rfl rfl rfl) rfl (z := (a.arrs.length : Int)) t28 rfl rfl rfl (.d _ _) (map_len _ _) rfl <| .fieldAddrP (.on rfl rfl rfl rfl rfl) rfl t30 rfl rfl t28 rfl rfl rfl rfl <| .load (.on rfl rfl rfl rfl rfl) rfl t28 rfl rfl (.ptr _ _ _ _ _ rfl) rfl rfl rfl rfl <| .len (.on rfl rfl rfl rfl rfl) rfl (z := (b.arrs.length : Int)) t28 rfl rfl rfl (.d _ _) (map_len _ _) rfl <| .bin (.on rfl rfl rfl rfl rfl) rfl rfl rfl rfl rfl rfl <| .pick (.no rfl) rfl rfl rfl rfl rfl ?_
    exact .fin () (.of (.cons rfl (.cons rfl (.cons (svB (show ((a.arrs.length : Int) != (b.arrs.length : Int)) = (((a.live != b.live || (a.ints.length : Int) != (b.ints.length : Int)) || (a.arrs.length : Int) != (b.arrs.length : Int))) by first | (simp only [g1_5, g1_14, Bool.true_or, Bool.false_or, Bool.true_and, Bool.false_and, Bool.not_true, Bool.not_false]; done) | simp [g1_5, g1_14])) .nil))) (.r rfl))
   ·skip
    refine .off rfl rfl rfl rfl rfl rfl rfl <| .off rfl rfl rfl rfl rfl rfl rfl <| .off rfl rfl rfl rfl rfl rfl rfl <| .off rfl rfl rfl rfl rfl rfl rfl <| .off rfl rfl rfl rfl rfl rfl rfl <| .off rfl rfl rfl rfl rfl rfl rfl <| .off rfl rfl rfl rfl rfl rfl rfl <| .pick (.no rfl) rfl rfl rfl rfl rfl ?_
    exact .fin () (.of (.cons rfl (.cons rfl (.cons (svB (show (true) = (((a.live != b.live || (a.ints.length : Int) != (b.ints.length : Int)) || (a.arrs.length : Int) != (b.arrs.length : Int))) by first | (simp only [g1_5, g1_14, Bool.true_or, Bool.false_or, Bool.true_and, Bool.false_and, Bool.not_true, Bool.not_false]; done) | simp [g1_5, g1_14])) .nil))) (.r rfl))
  ·skip
   refine .off rfl rfl rfl rfl rfl rfl rfl <| .off rfl rfl rfl rfl rfl rfl rfl <| .off rfl rfl rfl rfl rfl rfl rfl <| .off rfl rfl rfl rfl rfl rfl rfl <| .off rfl rfl rfl rfl rfl rfl rfl <| .off rfl rfl rfl rfl rfl rfl rfl <| .off rfl rfl rfl rfl rfl rfl rfl <| .pick (.no rfl) rfl rfl rfl rfl rfl <| .move (.no rfl) rfl rfl rfl rfl ?_
   refine .off rfl rfl rfl rfl rfl rfl rfl <| .off rfl rfl rfl rfl rfl rfl rfl <| .off rfl rfl rfl rfl rfl rfl rfl <| .off rfl rfl rfl rfl rfl rfl rfl <| .off rfl rfl rfl rfl rfl rfl rfl <| .off rfl rfl rfl rfl rfl rfl rfl <| .off rfl rfl rfl rfl rfl rfl rfl <| .pick (.no rfl) rfl rfl rfl rfl rfl ?_
   exact .fin () (.of (.cons rfl (.cons rfl (.cons (svB (show (true) = (((a.live != b.live || (a.ints.length : Int) != (b.ints.length : Int)) || (a.arrs.length : Int) != (b.arrs.length : Int))) by first | (simp only [g1_5, Bool.true_or, Bool.false_or, Bool.true_and, Bool.false_and, Bool.not_true, Bool.not_false]; done) | simp [g1_5])) .nil))) (.r rfl))
 intro _
 refine .cond (t := ((a.live != b.live || (a.ints.length : Int) != (b.ints.length : Int)) || (a.arrs.length : Int) != (b.arrs.length : Int))) rfl (fun c0 => ?_) (fun c0 => ?_)
 ·have c0 := (oT (oT bT bT) bT) c0
  refine .seq <| .rs fun k9 => .as rfl <| .z <| .ret ?_
  exact fin0 (.inr rfl) (.one (svB (show (false) = (Env.same a b) by (rw [Env.same_no c0]))) .nil) (.dd .nil) rfl
 ·have c0 := (oF (oF bF bF) bF) c0
  refine .skip <| .seq <| .rs fun k11 => .lda t30 rfl (.ptr _ _ _ _ _ rfl) rfl <| .c0 (c_l6List a (by omega)) rfl (.dd (.dd (.dd .nil))) (.frz [32, 0] (Frz.of_erase (erase_slo _ _ _ _ _ _ Iv.c_e)) .nil) rfl <| .as rfl <| .z <| .seq <| .rs fun k12 => ?_
  refine .lda t30 rfl (.ptr _ _ _ _ _ rfl) rfl <| .c0 (c_l6List b (by omega)) rfl (.dd (.dd (.dd .nil))) (.frz [34, 0] (Frz.of_erase (erase_slo _ _ _ _ _ _ Iv.c_e)) .nil) rfl <| .as rfl <| .z <| .seq <| .seq <| .rs fun k13 => .as rfl <| .z ?_
  refine .block ?_
  refine .loop (X := Nat) (fun ζ => .of [(5, .one (.d (.sl false 32 2 (List.map Iv.c (a.ints ++ a.arrs))))), (6, .one (.d (.sl false 32 2 (List.map Iv.c (b.ints ++ b.arrs))))), (7, .one (.d (.v (.int .i64 ((ζ : Int))))))] []) (fun ζ => ζ ≤ (a.ints ++ a.arrs).length ∧ allTo ζ (fun i => Iv.same ((a.ints ++ a.arrs).getD i default) ((b.ints ++ b.arrs).getD i default)) = true) (fun ζ => (a.ints ++ a.arrs).length - ζ) ?_ ?_
  ·skip
   exact .here 0 (.of (.cons rfl (.cons rfl (.cons (svI (show (0) = ((0 : Int)) by first | rfl | omega | exact wrap_le (by omega) (by omega) | (rw [wrap_le (by omega) (by omega)]; omega))) .nil))) .nil) (show 0 ≤ (a.ints ++ a.arrs).length ∧ allTo 0 (fun i => Iv.same ((a.ints ++ a.arrs).getD i default) ((b.ints ++ b.arrs).getD i default)) = true by exact ⟨by omega, rfl⟩)
  ·rintro j hI
   have hI : j ≤ (a.ints ++ a.arrs).length ∧ allTo j (fun i => Iv.same ((a.ints ++ a.arrs).getD i default) ((b.ints ++ b.arrs).getD i default)) = true := hI
   have hn9 : (a.ints ++ a.arrs).length ≤ 3145728 := by simp; omega
   have hn8 : (a.ints ++ a.arrs).length = (b.ints ++ b.arrs).length := by simp; omega
   refine .seq <| .seq <| .rs fun k14 => .mv rfl <| .mv rfl <| .g (fun _ τ => ⟨_, .len (.no rfl) rfl (z := ((a.ints ++ a.arrs).length : Int)) t28 rfl rfl rfl (.d _ _) (map_len _ _) rfl τ⟩) <| .bi rfl <| .z ?_
   refine .cond (t := decide ((j : Int) < ((a.ints ++ a.arrs).length : Int))) rfl (fun c1 => ?_) (fun c1 => ?_)
   ·have c1 := of_decide_eq_true c1
    refine .skip <| .seq <| .block <| .seq ?_
    refine .regD (X := Unit) (by kernel_rfl) (fun ζ => .of [(5, .one (.d (.sl false 32 2 (List.map Iv.c (a.ints ++ a.arrs))))), (6, .one (.d (.sl false 32 2 (List.map Iv.c (b.ints ++ b.arrs))))), (7, .one (.d (.v (.int .i64 ((j : Int)))))), (49, .one (.d (.v (.bool (!((((a.ints ++ a.arrs).getD (j) default).lo) == (((b.ints ++ b.arrs).getD (j) default).lo) && (((a.ints ++ a.arrs).getD (j) default).hi) == (((b.ints ++ b.arrs).getD (j) default).hi)))))))] []) [⟨[5], some 41, [], []⟩, ⟨[7], some 42, [], []⟩, ⟨[41, 42], some 43, [], []⟩, ⟨[43], some 44, [], []⟩, ⟨[6], some 45, [], []⟩, ⟨[7], some 46, [], []⟩, ⟨[45, 46], some 47, [], []⟩, ⟨[47], some 48, [], []⟩, ⟨[44, 48], some 49, [], []⟩] (by kernel_rfl) (fun k15 => ?_) ?_
    ·skip
     refine .move (.no rfl) rfl rfl rfl rfl <| .move (.no rfl) rfl rfl rfl rfl <| .indexAddr (.no rfl) rfl (j) t28 rfl t32 rfl rfl rfl (.d _ _) rfl rfl rfl (map_get (by omega)) rfl rfl <| .load (.no rfl) rfl t32 rfl rfl (.d _) rfl rfl rfl rfl <| .move (.no rfl) rfl rfl rfl rfl <| .move (.no rfl) rfl rfl rfl rfl <| .indexAddr (.no rfl) rfl (j) t28 rfl t32 rfl rfl rfl (.d _ _) rfl rfl rfl (map_get (by omega)) rfl rfl <| .load (.no rfl) rfl t32 rfl rfl (.d _) rfl rfl rfl rfl <| .ne2 (.no rfl) rfl e32 t2 rfl rfl rfl rfl rfl ?_
     exact .fin () (.of (.r rfl) .nil)
    intro _
    refine .cond (t := !((((a.ints ++ a.arrs).getD (j) default).lo) == (((b.ints ++ b.arrs).getD (j) default).lo) && (((a.ints ++ a.arrs).getD (j) default).hi) == (((b.ints ++ b.arrs).getD (j) default).hi))) rfl (fun c2 => ?_) (fun c2 => ?_)
    ·have c2 := (nT (aF eF eF)) c2
     refine .seq <| .rs fun k16 => .as rfl <| .z <| .ret ?_
     exact fin0 (.inr rfl) (.one (svB (show (false) = (Env.same a b) by (rw [Env.same_fail (by omega) (j := j) (by omega) c2]))) .nil) (.dd .nil) rfl
    ·have c2 := (nF (aT eT eT)) c2
     refine .skip <| .rs fun k18 => .mv rfl <| .bi rfl <| .as rfl <| .z ?_
     exact .here (j + 1) (.of (.cons rfl (.cons rfl (.cons (svI (show (IntKind.wrap .i64 ((j : Int) + 1)) = (((j + 1) : Int)) by first | rfl | omega | exact wrap_le (by omega) (by omega) | (rw [wrap_le (by omega) (by omega)]; omega))) .nil))) .nil) ⟨(show (j + 1) ≤ (a.ints ++ a.arrs).length ∧ allTo (j + 1) (fun i => Iv.same ((a.ints ++ a.arrs).getD i default) ((b.ints ++ b.arrs).getD i default)) = true by exact ⟨by omega, allTo_step hI.2 (by simp only [Iv.same, c2.1, c2.2, beq_self_eq_true, Bool.and_self])⟩), (show (a.ints ++ a.arrs).length - (j + 1) < (a.ints ++ a.arrs).length - j by omega)⟩
   ·have c1 := of_decide_eq_false c1
    refine .exit <| .seq <| .rs fun k19 => .as rfl <| .z <| .ret ?_
    exact fin0 (.inr rfl) (.one (svB (show (true) = (Env.same a b) by (rw [Env.same_done ⟨c0.1.1, by omega, by omega⟩ (j := j) (by omega) hI.2]))) .nil) (.dd .nil) rfl
theorem c_l8Node (a : Node) (b : Node) (hb : Node.small a ∧ Node.small b) : Trip Tryd.prog 81 [(true, 6), (true, 6)] (Node.c111 a ++ Node.c111 b) [(false, 1)] [.v (.bool (Node.same a b))] [] := by
 refine Trip.of Tryd.func81 (by decide) (c := _) rfl rfl (Nat.le_of_ble_eq_true rfl) rfl (AftOk.nil _) <| .sla (t := 0) 4 rfl rfl fun hs1l => .sla (t := 0) 5 rfl rfl fun hs2l => .sla (t := 1) 4 rfl rfl fun hs3l => .sla (t := 1) 5 rfl rfl fun hs4l => .seq <| .rs fun k5 => .g (fun _ τ => ⟨_, .box (.no rfl) rfl rfl rfl rfl rfl τ⟩) <| .g (fun _ τ => ⟨_, .box (.no rfl) rfl rfl rfl rfl rfl τ⟩) ?_
 refine .as rfl <| .z <| .seq ?_
 refine .reg (X := Unit) (fun ζ => .of [(4, .one (.d (.v (.bool ((((a.flag == b.flag && a.no == b.no) && a.yes == b.yes) && Env.same a.e b.e))))))] []) [⟨[2], some 5, [], []⟩, ⟨[5], some 6, [[2]], []⟩, ⟨[3], some 7, [], []⟩, ⟨[7], some 8, [[3]], []⟩, ⟨[6, 8], some 9, [], []⟩, ⟨[9], some 10, [], []⟩, ⟨[10, 2], some 11, [], []⟩, ⟨[10, 11], some 12, [[2]], []⟩, ⟨[10, 3], some 13, [], []⟩, ⟨[10, 13], some 14, [[3]], []⟩, ⟨[10, 12, 14], some 15, [], []⟩, ⟨[10, 15], some 16, [], []⟩, ⟨[16], some 17, [], []⟩, ⟨[17, 2], some 18, [], []⟩, ⟨[17, 18], some 19, [[2]], []⟩, ⟨[17, 3], some 20, [], []⟩, ⟨[17, 20], some 21, [[3]], []⟩, ⟨[17, 19, 21], some 22, [], []⟩, ⟨[17, 22], some 23, [], []⟩, ⟨[23], some 24, [], []⟩, ⟨[24, 2], some 25, [], []⟩, ⟨[24, 25], some 26, [[2]], []⟩, ⟨[24, 3], some 27, [], []⟩, ⟨[24, 27], some 28, [[3]], []⟩, ⟨[24, 26, 28], some 29, [], []⟩, ⟨[24, 29], some 30, [], []⟩, ⟨[30], some 4, [], []⟩] (fun k6 => ?_) ?_
 ·skip
  refine .fieldAddrP (.no rfl) rfl t111 rfl rfl t2 rfl rfl rfl rfl <| .load (.no rfl) rfl t2 rfl rfl (.ptr _ _ _ _ _ rfl) rfl rfl rfl rfl <| .fieldAddrP (.no rfl) rfl t111 rfl rfl t2 rfl rfl rfl rfl <| .load (.no rfl) rfl t2 rfl rfl (.ptr _ _ _ _ _ rfl) rfl rfl rfl rfl <| .bin (.no rfl) rfl rfl rfl rfl rfl rfl <| .moveB (.no rfl) rfl rfl rfl rfl fun b7 g1_5 => ?_
  cases b7
  ·skip
   refine .off rfl rfl rfl rfl rfl rfl rfl <| .off rfl rfl rfl rfl rfl rfl rfl <| .off rfl rfl rfl rfl rfl rfl rfl <| .off rfl rfl rfl rfl rfl rfl rfl <| .off rfl rfl rfl rfl rfl rfl rfl <| .pick (.no rfl) rfl rfl rfl rfl rfl <| .move (.no rfl) rfl rfl rfl rfl <| .off rfl rfl rfl rfl rfl rfl rfl <| .off rfl rfl rfl rfl rfl rfl rfl ?_
   refine .off rfl rfl rfl rfl rfl rfl rfl <| .off rfl rfl rfl rfl rfl rfl rfl <| .off rfl rfl rfl rfl rfl rfl rfl <| .pick (.no rfl) rfl rfl rfl rfl rfl <| .move (.no rfl) rfl rfl rfl rfl <| .off rfl rfl rfl rfl rfl rfl rfl <| .off rfl rfl rfl rfl rfl rfl rfl <| .off rfl rfl rfl rfl rfl rfl rfl <| .off rfl rfl rfl rfl rfl rfl rfl ?_
   refine .off rfl rfl rfl rfl rfl rfl rfl <| .pick (.no rfl) rfl rfl rfl rfl rfl <| .assign (.no rfl) rfl rfl rfl rfl ?_
   exact .fin () (.of (.cons (svB (show (false) = ((((a.flag == b.flag && a.no == b.no) && a.yes == b.yes) && Env.same a.e b.e)) by first | (simp only [g1_5, Bool.true_or, Bool.false_or, Bool.true_and, Bool.false_and, Bool.not_true, Bool.not_false]; done) | simp [g1_5])) .nil) .nil)
  ·skip
   refine .fieldAddrP (.on rfl rfl rfl rfl rfl) rfl t111 rfl rfl t2 rfl rfl rfl rfl <| .load (.on rfl rfl rfl rfl rfl) rfl t2 rfl rfl (.ptr _ _ _ _ _ rfl) rfl rfl rfl rfl <| .fieldAddrP (.on rfl rfl rfl rfl rfl) rfl t111 rfl rfl t2 rfl rfl rfl rfl <| .load (.on rfl rfl rfl rfl rfl) rfl t2 rfl rfl (.ptr _ _ _ _ _ rfl) rfl rfl rfl rfl <| .bin (.on rfl rfl rfl rfl rfl) rfl rfl rfl rfl rfl rfl <| .pick (.no rfl) rfl rfl rfl rfl rfl <| .moveB (.no rfl) rfl rfl rfl rfl fun b8 g1_12 => ?_
   cases b8
   ·skip
    refine .off rfl rfl rfl rfl rfl rfl rfl <| .off rfl rfl rfl rfl rfl rfl rfl <| .off rfl rfl rfl rfl rfl rfl rfl <| .off rfl rfl rfl rfl rfl rfl rfl <| .off rfl rfl rfl rfl rfl rfl rfl <| .pick (.no rfl) rfl rfl rfl rfl rfl <| .move (.no rfl) rfl rfl rfl rfl <| .off rfl rfl rfl rfl rfl rfl rfl <| .off rfl rfl rfl rfl rfl rfl rfl ?_
    refine .off rfl rfl rfl rfl rfl rfl rfl <| .off rfl rfl rfl rfl rfl rfl rfl <| .off rfl rfl rfl rfl rfl rfl rfl <| .pick (.no rfl) rfl rfl rfl rfl rfl <| .assign (.no rfl) rfl rfl rfl rfl ?_
    exact .fin () (.of (.cons (svB (show (false) = ((((a.flag == b.flag && a.no == b.no) && a.yes == b.yes) && Env.same a.e b.e)) by first | (simp only [g1_5, g1_12, Bool.true_or, Bool.false_or, Bool.true_and, Bool.false_and, Bool.not_true, Bool.not_false]; done) | simp [g1_5, g1_12])) .nil) .nil)
   ·skip
    refine .fieldAddrP (.on rfl rfl rfl rfl rfl) rfl t111 rfl rfl t2 rfl rfl rfl rfl <| .load (.on rfl rfl rfl rfl rfl) rfl t2 rfl rfl (.ptr _ _ _ _ _ rfl) rfl rfl rfl rfl <| .fieldAddrP (.on rfl rfl rfl rfl rfl) rfl t111 rfl rfl t2 rfl rfl rfl rfl <| .load (.on rfl rfl rfl rfl rfl) rfl t2 rfl rfl (.ptr _ _ _ _ _ rfl) rfl rfl rfl rfl <| .bin (.on rfl rfl rfl rfl rfl) rfl rfl rfl rfl rfl rfl <| .pick (.no rfl) rfl rfl rfl rfl rfl <| .moveB (.no rfl) rfl rfl rfl rfl fun b9 g1_19 => ?_
    cases b9
    ·skip
     refine .off rfl rfl rfl rfl rfl rfl rfl <| .off rfl rfl rfl rfl rfl rfl rfl <| .off rfl rfl rfl rfl rfl rfl rfl <| .off rfl rfl rfl rfl rfl rfl rfl <| .off rfl rfl rfl rfl rfl rfl rfl <| .pick (.no rfl) rfl rfl rfl rfl rfl <| .assign (.no rfl) rfl rfl rfl rfl ?_
     exact .fin () (.of (.cons (svB (show (false) = ((((a.flag == b.flag && a.no == b.no) && a.yes == b.yes) && Env.same a.e b.e)) by first | (simp only [g1_5, g1_12, g1_19, Bool.true_or, Bool.false_or, Bool.true_and, Bool.false_and, Bool.not_true, Bool.not_false]; done) | simp [g1_5, g1_12, g1_19])) .nil) .nil)
    ·skip
     refine .fieldAddrP (.on rfl rfl rfl rfl rfl) rfl t111 rfl rfl t30 rfl rfl rfl rfl <| .load (.on rfl rfl rfl rfl rfl) rfl t30 rfl rfl (.ptr _ _ _ _ _ rfl) rfl rfl rfl rfl <| .fieldAddrP (.on rfl rfl rfl rfl rfl) rfl t111 rfl rfl t30 rfl rfl rfl rfl <| .load (.on rfl rfl rfl rfl rfl) rfl t30 rfl rfl (.ptr _ _ _ _ _ rfl) rfl rfl rfl rfl <| .call (.on rfl rfl rfl rfl rfl) rfl [] [] (c_l8Same a.e b.e (by (have h8 := hb.1; have h9 := hb.2; unfold Node.small at h8 h9; omega))) rfl rfl rfl rfl rfl (.dd (.dd (.dd (.dd (.dd (.dd .nil)))))) rfl rfl (fun h => absurd rfl h) (.own [29, 0] .nil) (.nil) rfl rfl rfl (by simp) rfl rfl rfl <| .pick (.no rfl) rfl rfl rfl rfl rfl <| .assign (.no rfl) rfl rfl rfl rfl ?_
     exact .fin () (.of (.cons (svB (show (Env.same a.e b.e) = ((((a.flag == b.flag && a.no == b.no) && a.yes == b.yes) && Env.same a.e b.e)) by first | (simp only [g1_5, g1_12, g1_19, Bool.true_or, Bool.false_or, Bool.true_and, Bool.false_and, Bool.not_true, Bool.not_false]; done) | simp [g1_5, g1_12, g1_19])) .nil) .nil)
 intro _
 refine .ret ?_
 exact fin0 (.inr rfl) (.one (svB (show ((((a.flag == b.flag && a.no == b.no) && a.yes == b.yes) && Env.same a.e b.e)) = (Node.same a b) by rfl)) .nil) (.dd .nil) rfl
theorem c_l8Add (l : List Node) (n : Node) (hl : l.length ≤ 1048576) (hs : ∀ x ∈ l, Node.small x) (hn : Node.small n) : Trip Tryd.prog 115 [(false, 1), (true, 6)] ([.sl true 111 6 (List.map Node.co111 (l))] ++ [.v (.int .i64 (n.flag)), .v (.int .i64 (n.no)), .v (.int .i64 (n.yes)), .v (.bool (n.e.live)), .sl true 32 2 (List.map Iv.c (n.e.ints)), .sl true 32 2 (List.map Iv.c (n.e.arrs))]) [(false, 1), (false, 1)] [.sl true 111 6 (List.map Node.co111 ((treePut l n).1)), .v (.int .i64 ((treePut l n).2))] [] := by
 refine Trip.of Tryd.func115 (by decide) (c := _) rfl rfl (Nat.le_of_ble_eq_true rfl) rfl (AftOk.nil _) <| .seq <| .rs fun k1 => .g (fun _ τ => ⟨_, .box (.no rfl) rfl rfl rfl rfl rfl τ⟩) <| .as rfl <| .as rfl <| .z <| .seq <| .seq ?_
 refine .rs fun k2 => .as rfl <| .z <| .block ?_
 refine .loop (X := Nat) (fun ζ => .of [(0, .one (.ref [0, 0, 0] (0))), (1, .agg [.d (.v (.int .i64 (n.flag))), .d (.v (.int .i64 (n.no))), .d (.v (.int .i64 (n.yes))), .d (.v (.bool (n.e.live))), .ref [5, 0, 0] (0), .ref [6, 0, 0] (0)]), (3, .one (.ptr [3] (k1) 0)), (6, .one (.d (.v (.int .i64 ((ζ : Int))))))] [([0, 0, 0], (0, 0, .row 111 6 (List.map Node.co111 (l)))), ([3], (k1, k1, .box [.d (.v (.int .i64 (n.flag))), .d (.v (.int .i64 (n.no))), .d (.v (.int .i64 (n.yes))), .d (.v (.bool (n.e.live))), .ref [5, 0, 0] (0), .ref [6, 0, 0] (0)])), ([5, 0, 0], (0, 0, .row 32 2 (List.map Iv.c (n.e.ints)))), ([6, 0, 0], (0, 0, .row 32 2 (List.map Iv.c (n.e.arrs))))]) (fun ζ => ζ ≤ l.length ∧ allTo ζ (fun i => !Node.same (l.getD i default) n) = true) (fun ζ => l.length - ζ) ?_ ?_
 ·skip
  exact .here 0 (.of (.cons rfl (.cons rfl (.cons rfl (.cons (svI (show (0) = ((0 : Int)) by first | rfl | omega | exact wrap_le (by omega) (by omega) | (rw [wrap_le (by omega) (by omega)]; omega))) .nil)))) (.r rfl)) (show 0 ≤ l.length ∧ allTo 0 (fun i => !Node.same (l.getD i default) n) = true by exact ⟨by omega, rfl⟩)
 ·rintro j hI
  have hI : j ≤ l.length ∧ allTo j (fun i => !Node.same (l.getD i default) n) = true := hI
  refine .seq <| .seq <| .rs fun k3 => .mv rfl <| .mv rfl <| .g (fun _ τ => ⟨_, .len (.no rfl) rfl (z := (l.length : Int)) t59 rfl rfl rfl (.ref _ _ _ _ _ rfl) (map_len _ _) rfl τ⟩) <| .bi rfl <| .z ?_
  refine .cond (t := decide ((j : Int) < (l.length : Int))) rfl (fun c0 => ?_) (fun c0 => ?_)
  ·have c0 := of_decide_eq_true c0
   refine .skip <| .seq <| .block <| .seq ?_
   refine .regD (X := Unit) (by kernel_rfl) (fun ζ => .of [(0, .one (.ref [0, 0, 0] (0))), (1, .agg [.d (.v (.int .i64 (n.flag))), .d (.v (.int .i64 (n.no))), .d (.v (.int .i64 (n.yes))), .d (.v (.bool (n.e.live))), .ref [5, 0, 0] (0), .ref [6, 0, 0] (0)]), (3, .one (.ptr [3] (k1) 0)), (6, .one (.d (.v (.int .i64 ((j : Int)))))), (18, .one (.d (.v (.bool (Node.same (l.getD j default) n)))))] [([0, 0, 0], (0, 0, .row 111 6 (List.map Node.co111 (l)))), ([3], (k1, k1, .box [.d (.v (.int .i64 (n.flag))), .d (.v (.int .i64 (n.no))), .d (.v (.int .i64 (n.yes))), .d (.v (.bool (n.e.live))), .ref [5, 0, 0] (0), .ref [6, 0, 0] (0)])), ([5, 0, 0], (0, 0, .row 32 2 (List.map Iv.c (n.e.ints)))), ([6, 0, 0], (0, 0, .row 32 2 (List.map Iv.c (n.e.arrs))))]) [⟨[0], some 13, [], []⟩, ⟨[6], some 14, [], []⟩, ⟨[13, 14], some 15, [[0, 0, 0]], []⟩, ⟨[15], some 16, [[0, 0, 0]], []⟩, ⟨[3], some 17, [[3]], []⟩, ⟨[16, 17], some 18, [[0, 0, 0], [5, 0, 0], [6, 0, 0]], []⟩] (by kernel_rfl) (fun k4 => ?_) ?_
   ·skip
    refine .move (.no rfl) rfl rfl rfl rfl <| .move (.no rfl) rfl rfl rfl rfl <| .indexAddr (.no rfl) rfl (j) t59 rfl t111 rfl rfl rfl (.ref _ _ _ _ _ rfl) rfl rfl rfl (map_get (by omega)) rfl rfl <| .load (.no rfl) rfl t111 rfl rfl (At.as (cs' := [.d (.v (.int .i64 ((l.getD j default).flag))), .d (.v (.int .i64 ((l.getD j default).no))), .d (.v (.int .i64 ((l.getD j default).yes))), .d (.v (.bool (((l.getD j default).e).live))), .view [0, 0, 0] (0) (.sl false 32 2 (List.map Iv.c (((l.getD j default).e).ints))), .view [0, 0, 0] (0) (.sl false 32 2 (List.map Iv.c (((l.getD j default).e).arrs)))]) (.eptr _ _ _ _ _ _ _ _ _ rfl (map_get (by omega))) (by simp [Node.co111, D.seen, erase_slo _ _ _ _ _ _ Iv.c_e, erase_slo _ _ _ _ _ _ Iv.c_e])) rfl rfl rfl rfl <| .load (.no rfl) rfl t111 rfl rfl (.ptr _ _ _ _ _ rfl) rfl rfl rfl rfl ?_
    refine .call (.no rfl) rfl [[0, 0, 0], [5, 0, 0], [6, 0, 0]] [([0, 0, 0], (0, 0, .row 111 6 (List.map Node.co111 (l)))), ([5, 0, 0], (0, 0, .row 32 2 (List.map Iv.c (n.e.ints)))), ([6, 0, 0], (0, 0, .row 32 2 (List.map Iv.c (n.e.arrs))))] (c_l8Node (l.getD j default) n (by exact ⟨hs _ (getD_mem (by omega)), hn⟩)) rfl rfl rfl rfl rfl (.dd (.dd (.dd (.dd (.cons (Reads.view (.head _) (.head _)).gives (.cons (Reads.view (.head _) (.head _)).gives (.dd (.dd (.dd (.dd (.cons (Reads.ref (Frz.of_erase (erase_slo _ _ _ _ _ _ Iv.c_e)) (.tail _ (.head _)) (.tail _ (.head _))).gives (.cons (Reads.ref (Frz.of_erase (erase_slo _ _ _ _ _ _ Iv.c_e)) (.tail _ (.tail _ (.head _))) (.tail _ (.tail _ (.head _)))).gives .nil)))))))))))) rfl rfl (fun _ => (ownCons (Owned.v _) ownNil)) (.own [18, 0] .nil) (.nil) rfl rfl rfl (AllH.get (.r rfl)) rfl rfl rfl ?_
    exact .fin () (.of (.r rfl) (.r rfl))
   intro _
   refine .cond (t := Node.same (l.getD j default) n) rfl (fun c1 => ?_) (fun c1 => ?_)
   ·have c1 := c1
    refine .seq <| .rs fun k5 => .mv rfl <| .mv rfl <| .as rfl <| .as rfl <| .z <| .ret ?_
    have e6 : (l) = ((treePut l n).1) := by (rw [treePut_at (j := j) (by omega) hI.2 c1])
    exact fin1 (.inr rfl) [] [([0, 0, 0], (0, 0, .row 111 6 (List.map Node.co111 ((treePut l n).1))))] (.one rfl (.one (svI (show ((j : Int)) = ((treePut l n).2) by (rw [treePut_at (j := j) (by omega) hI.2 c1]))) .nil)) (.cons (.ref (.head _)) (.dd .nil)) rfl rfl (.cons (rowE (congrArg (List.map Node.co111) e6)) .nil)
   ·have c1 := c1
    refine .skip <| .rs fun k8 => .mv rfl <| .bi rfl <| .as rfl <| .z ?_
    exact .here (j + 1) (.of (.cons rfl (.cons rfl (.cons rfl (.cons (svI (show (IntKind.wrap .i64 ((j : Int) + 1)) = (((j + 1) : Int)) by first | rfl | omega | exact wrap_le (by omega) (by omega) | (rw [wrap_le (by omega) (by omega)]; omega))) .nil)))) (.r rfl)) ⟨(show (j + 1) ≤ l.length ∧ allTo (j + 1) (fun i => !Node.same (l.getD i default) n) = true by exact ⟨by omega, allTo_step hI.2 (by rw [c1]; rfl)⟩), (show l.length - (j + 1) < l.length - j by omega)⟩
  ·have c0 := of_decide_eq_false c0
   refine .exit <| .seq <| .both (t := 0) (N := l.length) rfl rfl (List.length_map _) <| .rs fun k9 => .g (fun _ τ => ⟨_, .moveL (.no rfl) rfl rfl rfl rfl τ⟩) <| .lda t111 rfl (.ptr _ _ _ _ _ rfl) rfl <| .g (fun _ τ => ⟨_, .buildSlice (.no rfl) rfl (els := [[.v (.int .i64 (n.flag)), .v (.int .i64 (n.no)), .v (.int .i64 (n.yes)), .v (.bool (n.e.live)), .sl true 32 2 (List.map Iv.c (n.e.ints)), .sl true 32 2 (List.map Iv.c (n.e.arrs))]]) t59 rfl z111 rfl rfl rfl rfl rfl rfl rfl rfl (by simp [i111]) (.cons _ _ _ _ _ _ (.d _) (.cons _ _ _ _ _ _ (.d _) (.cons _ _ _ _ _ _ (.d _) (.cons _ _ _ _ _ _ (.d _) (.cons _ _ _ _ _ _ (.ref _ _ _ _ _ _ rfl) (.cons _ _ _ _ _ _ (.ref _ _ _ _ _ _ rfl) .nil)))))) rfl rfl rfl τ⟩) ?_
   refine .g (fun _ τ => ⟨_, .append (.no rfl) rfl (l3 := List.map Node.co111 (l ++ [n])) t59 rfl z111 rfl rfl rfl rfl rfl rfl rfl rfl (.ref _ _ _ _ rfl) (.take _ _ _ _ _ rfl) rfl (by (simp [i111]; omega)) (map_snoc _ _ _) rfl rfl τ⟩) <| .g (fun _ τ => ⟨_, .moveR (.no rfl) rfl rfl rfl rfl τ⟩) <| .g (fun _ τ => ⟨_, .len (.no rfl) rfl (z := (l.length : Int)) t59 rfl rfl rfl (.d _ _) (shade_len _) rfl τ⟩) <| .as rfl <| .as rfl <| .z <| .ret ?_
   have e10 : (l ++ [n]) = ((treePut l n).1) := by (rw [treePut_none (j := j) (by omega) hI.2])
   exact fin1 (.inr rfl) [] [([0, 0, 0], (k9 + 1 + 1 + 1, k9 + 1 + 1 + 1, .row 111 6 (List.map Node.co111 ((treePut l n).1))))] (.one rfl (.one (svI (show ((l.length : Int)) = ((treePut l n).2) by (rw [treePut_none (j := j) (by omega) hI.2]))) .nil)) (.cons (.ref (.head _)) (.dd .nil)) rfl rfl (.cons (rowE (congrArg (List.map Node.co111) e10)) .nil)
theorem c_l8BuildR (N : Nat) : ∀ (t : List Env) (l : List Node) (flag : Nat) (leaf : Nat) (ht : ∀ x ∈ t, x.ints.length ≤ 1048576 ∧ x.arrs.length ≤ 1048576) (hp : Pow2 t) (hf : flag ≤ dep t) (hlf : leaf < p2 flag) (hl : l.length + p2 (dep t - flag + 1) ≤ 100) (hs : ∀ x ∈ l, Node.small x) (hN : dep t - flag < N), Trip Tryd.prog 82 [(false, 1), (false, 1), (false, 1), (false, 1)] ([.sl false 30 3 (List.map Env.c30 (t))] ++ [.sl true 111 6 (List.map Node.co111 (l))] ++ [.v (.int .i64 ((flag : Int)))] ++ [.v (.int .i64 ((leaf : Int)))]) [(false, 1), (false, 1)] [.sl true 111 6 (List.map Node.co111 ((treeGo t (dep t - flag) flag leaf l).1)), .v (.int .i64 ((treeGo t (dep t - flag) flag leaf l).2))] [] := by
 induction N with
 | zero => intros; omega
 | succ N ih =>
 intro t l flag leaf ht hp hf hlf hl hs hN
 refine Trip.of Tryd.func82 (by decide) (c := _) rfl rfl (Nat.le_of_ble_eq_true rfl) rfl (AftOk.nil _) <| .sl (t := 0) rfl fun hs1l => ?_
 have hp9 := p2_le (f := flag) (by have := hp.2; omega)
 have hp8 := hp.2
 have hp7 := hp.1
 have hp5 : flag < dep t → p2 (dep t - flag + 1) = 2 * p2 (dep t - (flag + 1) + 1) ∧ p2 (flag + 1) = 2 * p2 flag ∧ p2 flag < p2 (dep t) := fun h => ⟨by rw [← p2_step]; congr 1; omega, p2_step _, p2_lt h⟩
 refine .seq <| .rs fun k2 => .as rfl <| .as rfl <| .z <| .seq <| .seq <| .rs fun k3 => .mv rfl ?_
 refine .g (fun _ τ => ⟨_, .conv (.no rfl) rfl (z' := (flag : Int)) t2 t86 rfl rfl rfl rfl (wrap_u64 (by omega) (by omega)) rfl τ⟩) <| .g (fun _ τ => ⟨_, .shl (.no rfl) rfl (z := ((p2 flag : Nat) : Int)) rfl rfl rfl (by omega) (show IntKind.wrap .i64 (1 * 2 ^ (min ((flag : Int)).toNat (IntKind.bits .i64))) = ((p2 flag : Nat) : Int) by exact pw (by omega)) rfl τ⟩) <| .mv rfl <| .g (fun _ τ => ⟨_, .len (.no rfl) rfl (z := (t.length : Int)) t56 rfl rfl rfl (.d _ _) (map_len _ _) rfl τ⟩) <| .bi rfl <| .z ?_
 refine .cond (t := ((p2 flag : Nat) : Int) == (t.length : Int)) rfl (fun c0 => ?_) (fun c0 => ?_)
 ·have c0 := (by simpa using c0 : ((p2 flag : Nat) : Int) = (t.length : Int))
  have hz : flag = dep t := p2_inj (by rw [← hp7]; omega)
  refine .seq <| .rs fun k4 => .mv rfl <| .mv rfl <| .mv rfl <| .g (fun _ τ => ⟨_, .indexAddr (.no rfl) rfl (leaf) t56 rfl t30 rfl rfl rfl (.d _ _) rfl rfl rfl (map_get (by rw [hp7, ← hz]; exact hlf)) rfl rfl τ⟩) <| .lda t30 rfl (.d _) rfl <| .c0 (c_l6Copy (t.getD leaf default) (by first | assumption | omega | exact treeGo_small ht _ _ _ _ hs | exact treeGo_small ht _ _ _ _ (treeGo_small ht _ _ _ _ hs) | exact leaf_small ht leaf | exact ⟨by simp, by simp⟩ | (have h9 := treeGo_len t (dep t - (flag + 1)) (flag + 1) leaf l; (try dsimp only); omega) | (have h9 := treeGo_len t (dep t - (flag + 1)) (flag + 1) leaf l; have h8 := treeGo_len t (dep t - (flag + 1)) (flag + 1) (leaf + p2 flag) (treeGo t (dep t - (flag + 1)) (flag + 1) leaf l).1; (try dsimp only); omega))) rfl (.dd (.dd (.dd .nil))) (.own [23, 0] (.own [23, 1] (.own [23, 2] .nil))) rfl ?_
  refine .g (fun _ τ => ⟨_, .build (.no rfl) rfl z111 rfl p111 rfl rfl rfl rfl τ⟩) ?_
  refine .g (fun _ τ => ⟨_, .call (.no rfl) rfl [] [([1, 0, 0], (0, 0, .row 111 6 (List.map Node.co111 (l)))), ([23, 1], (k4 + 1 + 1 + 1 + 1 + 1, k4 + 1 + 1 + 1 + 1 + 1, .row 32 2 (List.map Iv.c ((t.getD leaf default).ints)))), ([23, 2], (k4 + 1 + 1 + 1 + 1 + 1, k4 + 1 + 1 + 1 + 1 + 1, .row 32 2 (List.map Iv.c ((t.getD leaf default).arrs))))] (c_l8Add l (Node.mk (-1) 0 0 (t.getD leaf default)) (by first | assumption | omega | exact treeGo_small ht _ _ _ _ hs | exact treeGo_small ht _ _ _ _ (treeGo_small ht _ _ _ _ hs) | exact leaf_small ht leaf | exact ⟨by simp, by simp⟩ | (have h9 := treeGo_len t (dep t - (flag + 1)) (flag + 1) leaf l; (try dsimp only); omega) | (have h9 := treeGo_len t (dep t - (flag + 1)) (flag + 1) leaf l; have h8 := treeGo_len t (dep t - (flag + 1)) (flag + 1) (leaf + p2 flag) (treeGo t (dep t - (flag + 1)) (flag + 1) leaf l).1; (try dsimp only); omega)) (by first | assumption | omega | exact treeGo_small ht _ _ _ _ hs | exact treeGo_small ht _ _ _ _ (treeGo_small ht _ _ _ _ hs) | exact leaf_small ht leaf | exact ⟨by simp, by simp⟩ | (have h9 := treeGo_len t (dep t - (flag + 1)) (flag + 1) leaf l; (try dsimp only); omega) | (have h9 := treeGo_len t (dep t - (flag + 1)) (flag + 1) leaf l; have h8 := treeGo_len t (dep t - (flag + 1)) (flag + 1) (leaf + p2 flag) (treeGo t (dep t - (flag + 1)) (flag + 1) leaf l).1; (try dsimp only); omega)) (by first | assumption | omega | exact treeGo_small ht _ _ _ _ hs | exact treeGo_small ht _ _ _ _ (treeGo_small ht _ _ _ _ hs) | exact leaf_small ht leaf | exact ⟨by simp, by simp⟩ | (have h9 := treeGo_len t (dep t - (flag + 1)) (flag + 1) leaf l; (try dsimp only); omega) | (have h9 := treeGo_len t (dep t - (flag + 1)) (flag + 1) leaf l; have h8 := treeGo_len t (dep t - (flag + 1)) (flag + 1) (leaf + p2 flag) (treeGo t (dep t - (flag + 1)) (flag + 1) leaf l).1; (try dsimp only); omega))) rfl rfl rfl rfl rfl (.cons (.ref (.head _)) (.dd (.dd (.dd (.dd (.cons (.ref (.tail _ (.head _))) (.cons (.ref (.tail _ (.tail _ (.head _)))) .nil))))))) rfl rfl (fun h => absurd rfl h) (.own [25, 0] (.own [25, 1] .nil)) (.nil) rfl rfl rfl (AllH.get (.r rfl)) rfl rfl rfl τ⟩) ?_
  refine .g (fun _ τ => ⟨_, .extract (.no rfl) rfl rfl rfl rfl rfl τ⟩) <| .g (fun _ τ => ⟨_, .extract (.no rfl) rfl rfl rfl rfl rfl τ⟩) <| .as rfl <| .as rfl <| .z <| .ret ?_
  have e5 : ((treePut l (Node.mk (-1) 0 0 (t.getD leaf default))).1) = ((treeGo t (dep t - flag) flag leaf l).1) := by (rw [treeGo_leaf (by omega)])
  exact fin1 (.inr rfl) [] [([25, 0], (k4 + 1 + 1 + 1 + 1 + 1 + 1 + 1, k4 + 1 + 1 + 1 + 1 + 1 + 1 + 1, .row 111 6 (List.map Node.co111 ((treeGo t (dep t - flag) flag leaf l).1))))] (.one rfl (.one (svI (show ((treePut l (Node.mk (-1) 0 0 (t.getD leaf default))).2) = ((treeGo t (dep t - flag) flag leaf l).2) by (rw [treeGo_leaf (by omega)]))) .nil)) (.cons (.ref (.head _)) (.dd .nil)) rfl rfl (.cons (rowE (congrArg (List.map Node.co111) e5)) .nil)
 ·have c0 := (by simpa using c0 : ¬ (((p2 flag : Nat) : Int) = (t.length : Int)))
  have hz : flag < dep t := (by have h9 : ¬ ((p2 flag : Nat) : Int) = (t.length : Int) := c0; rcases Nat.lt_or_ge flag (dep t) with h8 | h8; exact h8; exact absurd (show ((p2 flag : Nat) : Int) = t.length by rw [hp7, show flag = dep t by omega]) h9)
  have hp6 := hp5 hz
  refine .skip <| .seq <| .rs fun k7 => .mv rfl <| .mv rfl <| .mv rfl <| .g (fun _ τ => ⟨_, .binN (.no rfl) rfl (show IntKind.wrap .i64 ((flag : Int) + 1) = ((flag + 1 : Nat) : Int) by (rw [wrap_le (by omega) (by omega)]; rfl)) rfl rfl rfl rfl rfl τ⟩) <| .mv rfl ?_
  refine .g (fun _ τ => ⟨_, .call (.no rfl) rfl [] [([1, 0, 0], (0, 0, .row 111 6 (List.map Node.co111 (l))))] (ih t l (flag + 1 : Nat) leaf (by first | assumption | omega | exact treeGo_small ht _ _ _ _ hs | exact treeGo_small ht _ _ _ _ (treeGo_small ht _ _ _ _ hs) | exact leaf_small ht leaf | exact ⟨by simp, by simp⟩ | (have h9 := treeGo_len t (dep t - (flag + 1)) (flag + 1) leaf l; (try dsimp only); omega) | (have h9 := treeGo_len t (dep t - (flag + 1)) (flag + 1) leaf l; have h8 := treeGo_len t (dep t - (flag + 1)) (flag + 1) (leaf + p2 flag) (treeGo t (dep t - (flag + 1)) (flag + 1) leaf l).1; (try dsimp only); omega)) (by first | assumption | omega | exact treeGo_small ht _ _ _ _ hs | exact treeGo_small ht _ _ _ _ (treeGo_small ht _ _ _ _ hs) | exact leaf_small ht leaf | exact ⟨by simp, by simp⟩ | (have h9 := treeGo_len t (dep t - (flag + 1)) (flag + 1) leaf l; (try dsimp only); omega) | (have h9 := treeGo_len t (dep t - (flag + 1)) (flag + 1) leaf l; have h8 := treeGo_len t (dep t - (flag + 1)) (flag + 1) (leaf + p2 flag) (treeGo t (dep t - (flag + 1)) (flag + 1) leaf l).1; (try dsimp only); omega)) (by first | assumption | omega | exact treeGo_small ht _ _ _ _ hs | exact treeGo_small ht _ _ _ _ (treeGo_small ht _ _ _ _ hs) | exact leaf_small ht leaf | exact ⟨by simp, by simp⟩ | (have h9 := treeGo_len t (dep t - (flag + 1)) (flag + 1) leaf l; (try dsimp only); omega) | (have h9 := treeGo_len t (dep t - (flag + 1)) (flag + 1) leaf l; have h8 := treeGo_len t (dep t - (flag + 1)) (flag + 1) (leaf + p2 flag) (treeGo t (dep t - (flag + 1)) (flag + 1) leaf l).1; (try dsimp only); omega)) (by first | assumption | omega | exact treeGo_small ht _ _ _ _ hs | exact treeGo_small ht _ _ _ _ (treeGo_small ht _ _ _ _ hs) | exact leaf_small ht leaf | exact ⟨by simp, by simp⟩ | (have h9 := treeGo_len t (dep t - (flag + 1)) (flag + 1) leaf l; (try dsimp only); omega) | (have h9 := treeGo_len t (dep t - (flag + 1)) (flag + 1) leaf l; have h8 := treeGo_len t (dep t - (flag + 1)) (flag + 1) (leaf + p2 flag) (treeGo t (dep t - (flag + 1)) (flag + 1) leaf l).1; (try dsimp only); omega)) (by first | assumption | omega | exact treeGo_small ht _ _ _ _ hs | exact treeGo_small ht _ _ _ _ (treeGo_small ht _ _ _ _ hs) | exact leaf_small ht leaf | exact ⟨by simp, by simp⟩ | (have h9 := treeGo_len t (dep t - (flag + 1)) (flag + 1) leaf l; (try dsimp only); omega) | (have h9 := treeGo_len t (dep t - (flag + 1)) (flag + 1) leaf l; have h8 := treeGo_len t (dep t - (flag + 1)) (flag + 1) (leaf + p2 flag) (treeGo t (dep t - (flag + 1)) (flag + 1) leaf l).1; (try dsimp only); omega)) (by first | assumption | omega | exact treeGo_small ht _ _ _ _ hs | exact treeGo_small ht _ _ _ _ (treeGo_small ht _ _ _ _ hs) | exact leaf_small ht leaf | exact ⟨by simp, by simp⟩ | (have h9 := treeGo_len t (dep t - (flag + 1)) (flag + 1) leaf l; (try dsimp only); omega) | (have h9 := treeGo_len t (dep t - (flag + 1)) (flag + 1) leaf l; have h8 := treeGo_len t (dep t - (flag + 1)) (flag + 1) (leaf + p2 flag) (treeGo t (dep t - (flag + 1)) (flag + 1) leaf l).1; (try dsimp only); omega)) (by omega)) rfl rfl rfl rfl rfl (.dd (.cons (.ref (.head _)) (.dd (.dd .nil)))) rfl rfl (fun h => absurd rfl h) (.own [34, 0] (.own [34, 1] .nil)) (.nil) rfl rfl rfl (AllH.get (.r rfl)) rfl rfl rfl τ⟩) ?_
  refine .g (fun _ τ => ⟨_, .move (.no rfl) rfl rfl rfl rfl τ⟩) <| .g (fun _ τ => ⟨_, .extract (.no rfl) rfl rfl rfl rfl rfl τ⟩) <| .g (fun _ τ => ⟨_, .extract (.no rfl) rfl rfl rfl rfl rfl τ⟩) <| .as rfl <| .as rfl <| .z <| .seq <| .rs fun k8 => .mv rfl ?_
  refine .mv rfl <| .mv rfl <| .g (fun _ τ => ⟨_, .binN (.no rfl) rfl (show IntKind.wrap .i64 ((flag : Int) + 1) = ((flag + 1 : Nat) : Int) by (rw [wrap_le (by omega) (by omega)]; rfl)) rfl rfl rfl rfl rfl τ⟩) <| .mv rfl <| .mv rfl <| .g (fun _ τ => ⟨_, .conv (.no rfl) rfl (z' := (flag : Int)) t2 t86 rfl rfl rfl rfl (wrap_u64 (by omega) (by omega)) rfl τ⟩) <| .g (fun _ τ => ⟨_, .shl (.no rfl) rfl (z := ((p2 flag : Nat) : Int)) rfl rfl rfl (by omega) (show IntKind.wrap .i64 (1 * 2 ^ (min ((flag : Int)).toNat (IntKind.bits .i64))) = ((p2 flag : Nat) : Int) by exact pw (by omega)) rfl τ⟩) <| .g (fun _ τ => ⟨_, .binN (.no rfl) rfl (show IntKind.wrap .i64 ((leaf : Int) + ((p2 flag : Nat) : Int)) = ((leaf + p2 flag : Nat) : Int) by (rw [wrap_le (by omega) (by omega)]; omega)) rfl rfl rfl rfl rfl τ⟩) ?_
  refine .g (fun _ τ => ⟨_, .call (.no rfl) rfl [] [([34, 0], (k7 + 1 + 1 + 1 + 1 + 1, k7 + 1 + 1 + 1 + 1 + 1, .row 111 6 (List.map Node.co111 ((treeGo t (dep t - (flag + 1 : Nat)) (flag + 1 : Nat) leaf l).1))))] (ih t ((treeGo t (dep t - (flag + 1 : Nat)) (flag + 1 : Nat) leaf l).1) (flag + 1 : Nat) (leaf + p2 flag : Nat) (by first | assumption | omega | exact treeGo_small ht _ _ _ _ hs | exact treeGo_small ht _ _ _ _ (treeGo_small ht _ _ _ _ hs) | exact leaf_small ht leaf | exact ⟨by simp, by simp⟩ | (have h9 := treeGo_len t (dep t - (flag + 1)) (flag + 1) leaf l; (try dsimp only); omega) | (have h9 := treeGo_len t (dep t - (flag + 1)) (flag + 1) leaf l; have h8 := treeGo_len t (dep t - (flag + 1)) (flag + 1) (leaf + p2 flag) (treeGo t (dep t - (flag + 1)) (flag + 1) leaf l).1; (try dsimp only); omega)) (by first | assumption | omega | exact treeGo_small ht _ _ _ _ hs | exact treeGo_small ht _ _ _ _ (treeGo_small ht _ _ _ _ hs) | exact leaf_small ht leaf | exact ⟨by simp, by simp⟩ | (have h9 := treeGo_len t (dep t - (flag + 1)) (flag + 1) leaf l; (try dsimp only); omega) | (have h9 := treeGo_len t (dep t - (flag + 1)) (flag + 1) leaf l; have h8 := treeGo_len t (dep t - (flag + 1)) (flag + 1) (leaf + p2 flag) (treeGo t (dep t - (flag + 1)) (flag + 1) leaf l).1; (try dsimp only); omega)) (by first | assumption | omega | exact treeGo_small ht _ _ _ _ hs | exact treeGo_small ht _ _ _ _ (treeGo_small ht _ _ _ _ hs) | exact leaf_small ht leaf | exact ⟨by simp, by simp⟩ | (have h9 := treeGo_len t (dep t - (flag + 1)) (flag + 1) leaf l; (try dsimp only); omega) | (have h9 := treeGo_len t (dep t - (flag + 1)) (flag + 1) leaf l; have h8 := treeGo_len t (dep t - (flag + 1)) (flag + 1) (leaf + p2 flag) (treeGo t (dep t - (flag + 1)) (flag + 1) leaf l).1; (try dsimp only); omega)) (by first | assumption | omega | exact treeGo_small ht _ _ _ _ hs | exact treeGo_small ht _ _ _ _ (treeGo_small ht _ _ _ _ hs) | exact leaf_small ht leaf | exact ⟨by simp, by simp⟩ | (have h9 := treeGo_len t (dep t - (flag + 1)) (flag + 1) leaf l; (try dsimp only); omega) | (have h9 := treeGo_len t (dep t - (flag + 1)) (flag + 1) leaf l; have h8 := treeGo_len t (dep t - (flag + 1)) (flag + 1) (leaf + p2 flag) (treeGo t (dep t - (flag + 1)) (flag + 1) leaf l).1; (try dsimp only); omega)) (by first | assumption | omega | exact treeGo_small ht _ _ _ _ hs | exact treeGo_small ht _ _ _ _ (treeGo_small ht _ _ _ _ hs) | exact leaf_small ht leaf | exact ⟨by simp, by simp⟩ | (have h9 := treeGo_len t (dep t - (flag + 1)) (flag + 1) leaf l; (try dsimp only); omega) | (have h9 := treeGo_len t (dep t - (flag + 1)) (flag + 1) leaf l; have h8 := treeGo_len t (dep t - (flag + 1)) (flag + 1) (leaf + p2 flag) (treeGo t (dep t - (flag + 1)) (flag + 1) leaf l).1; (try dsimp only); omega)) (by first | assumption | omega | exact treeGo_small ht _ _ _ _ hs | exact treeGo_small ht _ _ _ _ (treeGo_small ht _ _ _ _ hs) | exact leaf_small ht leaf | exact ⟨by simp, by simp⟩ | (have h9 := treeGo_len t (dep t - (flag + 1)) (flag + 1) leaf l; (try dsimp only); omega) | (have h9 := treeGo_len t (dep t - (flag + 1)) (flag + 1) leaf l; have h8 := treeGo_len t (dep t - (flag + 1)) (flag + 1) (leaf + p2 flag) (treeGo t (dep t - (flag + 1)) (flag + 1) leaf l).1; (try dsimp only); omega)) (by omega)) rfl rfl rfl rfl rfl (.dd (.cons (.ref (.head _)) (.dd (.dd .nil)))) rfl rfl (fun h => absurd rfl h) (.own [47, 0] (.own [47, 1] .nil)) (.nil) rfl rfl rfl (AllH.get (.r rfl)) rfl rfl rfl τ⟩) ?_
  refine .g (fun _ τ => ⟨_, .move (.no rfl) rfl rfl rfl rfl τ⟩) <| .g (fun _ τ => ⟨_, .extract (.no rfl) rfl rfl rfl rfl rfl τ⟩) <| .g (fun _ τ => ⟨_, .extract (.no rfl) rfl rfl rfl rfl rfl τ⟩) <| .as rfl <| .as rfl <| .z <| .seq <| .seq <| .rs fun k9 => ?_
  refine .mv rfl <| .mv rfl <| .bi rfl <| .z ?_
  refine .cond (t := ((treeGo t (dep t - (flag + 1 : Nat)) (flag + 1 : Nat) leaf l).2) == ((treeGo t (dep t - (flag + 1 : Nat)) (flag + 1 : Nat) (leaf + p2 flag : Nat) ((treeGo t (dep t - (flag + 1 : Nat)) (flag + 1 : Nat) leaf l).1)).2)) rfl (fun c1 => ?_) (fun c1 => ?_)
  ·have c1 := (by simpa using c1 : ((treeGo t (dep t - (flag + 1 : Nat)) (flag + 1 : Nat) leaf l).2) = ((treeGo t (dep t - (flag + 1 : Nat)) (flag + 1 : Nat) (leaf + p2 flag : Nat) ((treeGo t (dep t - (flag + 1 : Nat)) (flag + 1 : Nat) leaf l).1)).2))
   refine .seq ?_
   refine .reg (X := Unit) (fun ζ => .of [(1, .one (.ref [47, 0] (k8 + 1 + 1 + 1 + 1 + 1 + 1 + 1 + 1 + 1))), (8, .one (.ref [47, 0] (k8 + 1 + 1 + 1 + 1 + 1 + 1 + 1 + 1 + 1))), (9, .one (.d (.v (.int .i64 ((treeGo t (dep t - (flag + 1 : Nat)) (flag + 1 : Nat) leaf l).2)))))] [([47, 0], (k8 + 1 + 1 + 1 + 1 + 1 + 1 + 1 + 1 + 1, k8 + 1 + 1 + 1 + 1 + 1 + 1 + 1 + 1 + 1, .row 111 6 (List.map Node.co111 ((treeGo t (dep t - (flag + 1 : Nat)) (flag + 1 : Nat) (leaf + p2 flag : Nat) ((treeGo t (dep t - (flag + 1 : Nat)) (flag + 1 : Nat) leaf l).1)).1))))]) [⟨[1], some 53, [], []⟩, ⟨[10], some 54, [], []⟩, ⟨[53], some 8, [], []⟩, ⟨[54], some 9, [], []⟩] (fun k10 => ?_) ?_
   ·skip
    refine .move (.no rfl) rfl rfl rfl rfl <| .move (.no rfl) rfl rfl rfl rfl <| .assign (.no rfl) rfl rfl rfl rfl <| .assign (.no rfl) rfl rfl rfl rfl ?_
    exact .fin () (.of (.r rfl) (.r rfl))
   intro _
   refine .ret ?_
   have e11 : ((treeGo t (dep t - (flag + 1 : Nat)) (flag + 1 : Nat) (leaf + p2 flag : Nat) ((treeGo t (dep t - (flag + 1 : Nat)) (flag + 1 : Nat) leaf l).1)).1) = ((treeGo t (dep t - flag) flag leaf l).1) := by (rw [treeGo_same hz (by simpa using c1)])
   exact fin1 (.inr rfl) [] [([47, 0], (k8 + 1 + 1 + 1 + 1 + 1 + 1 + 1 + 1 + 1, k8 + 1 + 1 + 1 + 1 + 1 + 1 + 1 + 1 + 1, .row 111 6 (List.map Node.co111 ((treeGo t (dep t - flag) flag leaf l).1))))] (.one rfl (.one (svI (show ((treeGo t (dep t - (flag + 1 : Nat)) (flag + 1 : Nat) leaf l).2) = ((treeGo t (dep t - flag) flag leaf l).2) by (rw [treeGo_same hz (by simpa using c1)]))) .nil)) (.cons (.ref (.head _)) (.dd .nil)) rfl rfl (.cons (rowE (congrArg (List.map Node.co111) e11)) .nil)
  ·have c1 := (by simpa using c1 : ¬ (((treeGo t (dep t - (flag + 1 : Nat)) (flag + 1 : Nat) leaf l).2) = ((treeGo t (dep t - (flag + 1 : Nat)) (flag + 1 : Nat) (leaf + p2 flag : Nat) ((treeGo t (dep t - (flag + 1 : Nat)) (flag + 1 : Nat) leaf l).1)).2)))
   refine .skip <| .seq ?_
   refine .reg (X := Nat) (fun ζ => .of [(1, .one (.ref [47, 0] (k8 + 1 + 1 + 1 + 1 + 1 + 1 + 1 + 1 + 1))), (8, .one (.ref [60, 0] (ζ))), (9, .one (.d (.v (.int .i64 ((treePut ((treeGo t (dep t - (flag + 1 : Nat)) (flag + 1 : Nat) (leaf + p2 flag : Nat) ((treeGo t (dep t - (flag + 1 : Nat)) (flag + 1 : Nat) leaf l).1)).1) (Node.mk (flag : Int) ((treeGo t (dep t - (flag + 1 : Nat)) (flag + 1 : Nat) leaf l).2) ((treeGo t (dep t - (flag + 1 : Nat)) (flag + 1 : Nat) (leaf + p2 flag : Nat) ((treeGo t (dep t - (flag + 1 : Nat)) (flag + 1 : Nat) leaf l).1)).2) (Env.mk false [] []))).2)))))] [([60, 0], (ζ, ζ, .row 111 6 (List.map Node.co111 ((treePut ((treeGo t (dep t - (flag + 1 : Nat)) (flag + 1 : Nat) (leaf + p2 flag : Nat) ((treeGo t (dep t - (flag + 1 : Nat)) (flag + 1 : Nat) leaf l).1)).1) (Node.mk (flag : Int) ((treeGo t (dep t - (flag + 1 : Nat)) (flag + 1 : Nat) leaf l).2) ((treeGo t (dep t - (flag + 1 : Nat)) (flag + 1 : Nat) (leaf + p2 flag : Nat) ((treeGo t (dep t - (flag + 1 : Nat)) (flag + 1 : Nat) leaf l).1)).2) (Env.mk false [] []))).1))))]) [⟨[1], some 55, [], []⟩, ⟨[2], some 56, [], []⟩, ⟨[10], some 57, [], []⟩, ⟨[11], some 58, [], []⟩, ⟨[56, 57, 58], some 59, [], []⟩, ⟨[55, 59], some 60, [[47, 0]], [[47, 0], [60, 0]]⟩, ⟨[60], some 61, [], []⟩, ⟨[60], some 62, [], []⟩, ⟨[61], some 8, [], []⟩, ⟨[62], some 9, [], []⟩] (fun k13 => ?_) ?_
   ·skip
    refine .move (.no rfl) rfl rfl rfl rfl <| .move (.no rfl) rfl rfl rfl rfl <| .move (.no rfl) rfl rfl rfl rfl <| .move (.no rfl) rfl rfl rfl rfl <| .build (.no rfl) rfl z111 rfl p111 rfl rfl rfl rfl ?_
    refine .call (.no rfl) rfl [] [([47, 0], (k8 + 1 + 1 + 1 + 1 + 1 + 1 + 1 + 1 + 1, k8 + 1 + 1 + 1 + 1 + 1 + 1 + 1 + 1 + 1, .row 111 6 (List.map Node.co111 ((treeGo t (dep t - (flag + 1 : Nat)) (flag + 1 : Nat) (leaf + p2 flag : Nat) ((treeGo t (dep t - (flag + 1 : Nat)) (flag + 1 : Nat) leaf l).1)).1))))] (c_l8Add ((treeGo t (dep t - (flag + 1 : Nat)) (flag + 1 : Nat) (leaf + p2 flag : Nat) ((treeGo t (dep t - (flag + 1 : Nat)) (flag + 1 : Nat) leaf l).1)).1) (Node.mk (flag : Int) ((treeGo t (dep t - (flag + 1 : Nat)) (flag + 1 : Nat) leaf l).2) ((treeGo t (dep t - (flag + 1 : Nat)) (flag + 1 : Nat) (leaf + p2 flag : Nat) ((treeGo t (dep t - (flag + 1 : Nat)) (flag + 1 : Nat) leaf l).1)).2) (Env.mk false [] [])) (by first | assumption | omega | exact treeGo_small ht _ _ _ _ hs | exact treeGo_small ht _ _ _ _ (treeGo_small ht _ _ _ _ hs) | exact leaf_small ht leaf | exact ⟨by simp, by simp⟩ | (have h9 := treeGo_len t (dep t - (flag + 1)) (flag + 1) leaf l; (try dsimp only); omega) | (have h9 := treeGo_len t (dep t - (flag + 1)) (flag + 1) leaf l; have h8 := treeGo_len t (dep t - (flag + 1)) (flag + 1) (leaf + p2 flag) (treeGo t (dep t - (flag + 1)) (flag + 1) leaf l).1; (try dsimp only); omega)) (by first | assumption | omega | exact treeGo_small ht _ _ _ _ hs | exact treeGo_small ht _ _ _ _ (treeGo_small ht _ _ _ _ hs) | exact leaf_small ht leaf | exact ⟨by simp, by simp⟩ | (have h9 := treeGo_len t (dep t - (flag + 1)) (flag + 1) leaf l; (try dsimp only); omega) | (have h9 := treeGo_len t (dep t - (flag + 1)) (flag + 1) leaf l; have h8 := treeGo_len t (dep t - (flag + 1)) (flag + 1) (leaf + p2 flag) (treeGo t (dep t - (flag + 1)) (flag + 1) leaf l).1; (try dsimp only); omega)) (by first | assumption | omega | exact treeGo_small ht _ _ _ _ hs | exact treeGo_small ht _ _ _ _ (treeGo_small ht _ _ _ _ hs) | exact leaf_small ht leaf | exact ⟨by simp, by simp⟩ | (have h9 := treeGo_len t (dep t - (flag + 1)) (flag + 1) leaf l; (try dsimp only); omega) | (have h9 := treeGo_len t (dep t - (flag + 1)) (flag + 1) leaf l; have h8 := treeGo_len t (dep t - (flag + 1)) (flag + 1) (leaf + p2 flag) (treeGo t (dep t - (flag + 1)) (flag + 1) leaf l).1; (try dsimp only); omega))) rfl rfl rfl rfl rfl (.cons (.ref (.head _)) (.dd (.dd (.dd (.dd (.cons (.nil _ _ _) (.cons (.nil _ _ _) .nil))))))) rfl rfl (fun h => absurd rfl h) (.own [60, 0] (.own [60, 1] .nil)) (.nil) rfl rfl rfl (AllH.get (.r rfl)) rfl rfl rfl ?_
    refine .extract (.no rfl) rfl rfl rfl rfl rfl <| .extract (.no rfl) rfl rfl rfl rfl rfl <| .assign (.no rfl) rfl rfl rfl rfl <| .assign (.no rfl) rfl rfl rfl rfl ?_
    exact .fin (k13 + 1 + 1 + 1 + 1 + 1) (.of (.r rfl) (.r rfl))
   intro g14
   refine .ret ?_
   have e15 : ((treePut ((treeGo t (dep t - (flag + 1 : Nat)) (flag + 1 : Nat) (leaf + p2 flag : Nat) ((treeGo t (dep t - (flag + 1 : Nat)) (flag + 1 : Nat) leaf l).1)).1) (Node.mk (flag : Int) ((treeGo t (dep t - (flag + 1 : Nat)) (flag + 1 : Nat) leaf l).2) ((treeGo t (dep t - (flag + 1 : Nat)) (flag + 1 : Nat) (leaf + p2 flag : Nat) ((treeGo t (dep t - (flag + 1 : Nat)) (flag + 1 : Nat) leaf l).1)).2) (Env.mk false [] []))).1) = ((treeGo t (dep t - flag) flag leaf l).1) := by (rw [treeGo_else hz (by simpa using c1)])
   exact fin1 (.inr rfl) [] [([60, 0], (g14, g14, .row 111 6 (List.map Node.co111 ((treeGo t (dep t - flag) flag leaf l).1))))] (.one rfl (.one (svI (show ((treePut ((treeGo t (dep t - (flag + 1 : Nat)) (flag + 1 : Nat) (leaf + p2 flag : Nat) ((treeGo t (dep t - (flag + 1 : Nat)) (flag + 1 : Nat) leaf l).1)).1) (Node.mk (flag : Int) ((treeGo t (dep t - (flag + 1 : Nat)) (flag + 1 : Nat) leaf l).2) ((treeGo t (dep t - (flag + 1 : Nat)) (flag + 1 : Nat) (leaf + p2 flag : Nat) ((treeGo t (dep t - (flag + 1 : Nat)) (flag + 1 : Nat) leaf l).1)).2) (Env.mk false [] []))).2) = ((treeGo t (dep t - flag) flag leaf l).2) by (rw [treeGo_else hz (by simpa using c1)]))) .nil)) (.cons (.ref (.head _)) (.dd .nil)) rfl rfl (.cons (rowE (congrArg (List.map Node.co111) e15)) .nil)
theorem c_l8Build (t : List Env) (l : List Node) (flag : Nat) (leaf : Nat) (ht : ∀ x ∈ t, x.ints.length ≤ 1048576 ∧ x.arrs.length ≤ 1048576) (hp : Pow2 t) (hf : flag ≤ dep t) (hlf : leaf < p2 flag) (hl : l.length + p2 (dep t - flag + 1) ≤ 100) (hs : ∀ x ∈ l, Node.small x) : Trip Tryd.prog 82 [(false, 1), (false, 1), (false, 1), (false, 1)] ([.sl false 30 3 (List.map Env.c30 (t))] ++ [.sl true 111 6 (List.map Node.co111 (l))] ++ [.v (.int .i64 ((flag : Int)))] ++ [.v (.int .i64 ((leaf : Int)))]) [(false, 1), (false, 1)] [.sl true 111 6 (List.map Node.co111 ((treeGo t (dep t - flag) flag leaf l).1)), .v (.int .i64 ((treeGo t (dep t - flag) flag leaf l).2))] [] := c_l8BuildR (dep t - flag + 1) t l flag leaf ht hp hf hlf hl hs (Nat.lt_succ_self _)
theorem c_sTreeOf (d : Decl) (t : List Env) (hs : ∀ x ∈ Decl.names d, x.size ≤ 9223372036854775807) (hd : d.vars.length ≤ 1048576 ∧ d.flags.length ≤ 1048576 ∧ d.arrays.length ≤ 1048576) (ht : ∀ x ∈ t, x.ints.length ≤ 1048576 ∧ x.arrs.length ≤ 1048576) : Trip Tryd.prog 31 [(true, 3), (false, 1)] (Decl.c27 d ++ [.sl false 30 3 (List.map Env.c30 (t))]) [(true, 1)] [.sl true 111 6 (List.map Node.co111 ((Tree.of d t).nodes))] [] := by
 refine Trip.of Tryd.func31 (by decide) (c := _) rfl rfl (Nat.le_of_ble_eq_true rfl) rfl (AftOk.nil _) <| .sla (t := 0) 0 rfl rfl fun hs1l => .sla (t := 0) 1 rfl rfl fun hs2l => .sla (t := 0) 2 rfl rfl fun hs3l => .sl (t := 1) rfl fun hs4l => .seq <| .rs fun k5 => .g (fun _ τ => ⟨_, .box (.no rfl) rfl rfl rfl rfl rfl τ⟩) <| .g (fun _ τ => ⟨_, .alloc (.no rfl) rfl z61 rfl rfl rfl τ⟩) ?_
 refine .z <| .seq <| .seq <| .rs fun k6 => .lda t27 rfl (.ptr _ _ _ _ _ rfl) rfl <| .mv rfl ?_
 refine .c0 (c_sTableOk d t (by first | assumption | exact (Pow2.of c0).1 | exact Nat.zero_le _ | exact Nat.lt_succ_self _ | (have h9 := (Pow2.of c0).1.2; have h8 := p2_le h9; have h7 := p2_step (dep t - 0); simp only [List.length_nil]; simp only [Nat.sub_zero] at h7 ⊢; omega) | simp) (by first | assumption | exact (Pow2.of c0).1 | exact Nat.zero_le _ | exact Nat.lt_succ_self _ | (have h9 := (Pow2.of c0).1.2; have h8 := p2_le h9; have h7 := p2_step (dep t - 0); simp only [List.length_nil]; simp only [Nat.sub_zero] at h7 ⊢; omega) | simp) (by first | assumption | exact (Pow2.of c0).1 | exact Nat.zero_le _ | exact Nat.lt_succ_self _ | (have h9 := (Pow2.of c0).1.2; have h8 := p2_le h9; have h7 := p2_step (dep t - 0); simp only [List.length_nil]; simp only [Nat.sub_zero] at h7 ⊢; omega) | simp)) rfl (.dd (.dd (.dd (.dd .nil)))) (.own [9, 0] .nil) rfl <| .un rfl <| .z ?_
 refine .cond (t := !(Table.ok d t)) rfl (fun c0 => ?_) (fun c0 => ?_)
 ·have c0 := (nT id) c0
  refine .seq <| .rs fun k7 => .g (fun _ τ => ⟨_, .build (.no rfl) rfl z61 rfl p61 rfl rfl rfl rfl τ⟩) <| .g (fun _ τ => ⟨_, .store (.no rfl) rfl t61 rfl rfl rfl rfl rfl rfl rfl rfl rfl τ⟩) <| .z <| .ret ?_
  exact fin0 (.inr rfl) (.cell (cells := [.d (.v (.slice none 0 0))]) rfl rfl t61 rfl rfl .nil) (.cons (Gives.nil' (by (rw [Tree.of_no c0]; rfl))) .nil) rfl
 ·have c0 := (nF id) c0
  refine .skip <| .seq <| .rs fun k8 => .mv rfl ?_
  refine .c0 (c_l8Build t [] 0 0 (by first | assumption | exact (Pow2.of c0).1 | exact Nat.zero_le _ | exact Nat.lt_succ_self _ | (have h9 := (Pow2.of c0).1.2; have h8 := p2_le h9; have h7 := p2_step (dep t - 0); simp only [List.length_nil]; simp only [Nat.sub_zero] at h7 ⊢; omega) | simp) (by first | assumption | exact (Pow2.of c0).1 | exact Nat.zero_le _ | exact Nat.lt_succ_self _ | (have h9 := (Pow2.of c0).1.2; have h8 := p2_le h9; have h7 := p2_step (dep t - 0); simp only [List.length_nil]; simp only [Nat.sub_zero] at h7 ⊢; omega) | simp) (by first | assumption | exact (Pow2.of c0).1 | exact Nat.zero_le _ | exact Nat.lt_succ_self _ | (have h9 := (Pow2.of c0).1.2; have h8 := p2_le h9; have h7 := p2_step (dep t - 0); simp only [List.length_nil]; simp only [Nat.sub_zero] at h7 ⊢; omega) | simp) (by first | assumption | exact (Pow2.of c0).1 | exact Nat.zero_le _ | exact Nat.lt_succ_self _ | (have h9 := (Pow2.of c0).1.2; have h8 := p2_le h9; have h7 := p2_step (dep t - 0); simp only [List.length_nil]; simp only [Nat.sub_zero] at h7 ⊢; omega) | simp) (by first | assumption | exact (Pow2.of c0).1 | exact Nat.zero_le _ | exact Nat.lt_succ_self _ | (have h9 := (Pow2.of c0).1.2; have h8 := p2_le h9; have h7 := p2_step (dep t - 0); simp only [List.length_nil]; simp only [Nat.sub_zero] at h7 ⊢; omega) | simp) (by first | assumption | exact (Pow2.of c0).1 | exact Nat.zero_le _ | exact Nat.lt_succ_self _ | (have h9 := (Pow2.of c0).1.2; have h8 := p2_le h9; have h7 := p2_step (dep t - 0); simp only [List.length_nil]; simp only [Nat.sub_zero] at h7 ⊢; omega) | simp)) rfl (.dd (.cons (.nil _ _ _) (.dd (.dd .nil)))) (.own [14, 0] (.own [14, 1] .nil)) rfl ?_
  refine .g (fun _ τ => ⟨_, .move (.no rfl) rfl rfl rfl rfl τ⟩) <| .g (fun _ τ => ⟨_, .extract (.no rfl) rfl rfl rfl rfl rfl τ⟩) <| .g (fun _ τ => ⟨_, .extract (.no rfl) rfl rfl rfl rfl rfl τ⟩) <| .as rfl <| .as rfl <| .z <| .seq <| .rs fun k9 => .mv rfl ?_
  refine .g (fun _ τ => ⟨_, .build (.no rfl) rfl z61 rfl p61 rfl rfl rfl rfl τ⟩) <| .g (fun _ τ => ⟨_, .store (.no rfl) rfl t61 rfl rfl rfl rfl rfl rfl rfl rfl rfl τ⟩) <| .z <| .ret ?_
  have e10 : ((treeGo t (dep t - 0) 0 0 []).1) = ((Tree.of d t).nodes) := by (rw [Tree.of_yes c0])
  exact fin1 (.inr rfl) [] [([14, 0], (k8 + 1, k8 + 1, .row 111 6 (List.map Node.co111 ((Tree.of d t).nodes))))] (.cell (cells := [.ref [14, 0] (k8 + 1)]) rfl rfl t61 rfl rfl .nil) (.cons (.ref (.head _)) .nil) rfl rfl (.cons (rowE (congrArg (List.map Node.co111) e10)) .nil)
end Go.Proofs

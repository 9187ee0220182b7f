/- Contracts of the program's functions at this seat, printed by a program of ours and checked by Lean: each under the conditions of its own statement. -/
import Derived.Test.YtlhijdgafdfgeaaGreatDoorE4
import Derived.Test.YtlhijdgafdfgeaaGreatDoorProg
import Derived.Test.YtlhijdgafdfgeaaGreatDoorShelf
set_option linter.all false
set_option linter.unnecessarySimpa false
set_option linter.unusedSectionVars false
set_option linter.unusedSimpArgs false
set_option linter.unusedVariables false
namespace Go.Proofs
open Go Go.Proofs Go.Ev
instance : Lay := ⟨[(0, (List.range 256).map fun c => .v (.int .u8 (if Lib.isSp (UInt8.ofNat c) then 1 else 0)))]⟩

def Iv.c (x : Iv) : List D := [.v (.int .i64 (x.lo)), .v (.int .i64 (x.hi))]
theorem Iv.c_o (x : Iv) : ∀ d ∈ Iv.c x, Owned d := by simp [Iv.c, Owned.v]
theorem Iv.c_e (x : Iv) : (Iv.c x).map D.erase = Iv.c x := by simp [Iv.c, D.erase_v]
def strc (x : ByteArray) : List D := [.v (.string x)]
theorem strc_e (x : ByteArray) : (strc x).map D.erase = strc x := by simp [strc, D.erase_v]
theorem strc_o (x : ByteArray) : ∀ d ∈ strc x, Owned d := by simp [strc, Owned.v]
def Env.c81 (x : Env) : List D := [.v (.bool (x.live)), .sl false 112 2 (List.map Iv.c (x.ints)), .sl false 112 2 (List.map Iv.c (x.arrs))]
theorem Env.c81_e (x : Env) : (Env.c81 x).map D.erase = Env.c81 x := by simp [Env.c81, D.erase_v, erase_slo _ _ _ _ _ _ Iv.c_e]
def Env.co81 (x : Env) : List D := [.v (.bool (x.live)), .sl true 112 2 (List.map Iv.c (x.ints)), .sl true 112 2 (List.map Iv.c (x.arrs))]
theorem Env.co81_e (x : Env) : (Env.co81 x).map D.erase = Env.c81 x := by simp [Env.co81, Env.c81, D.erase_v, erase_slo _ _ _ _ _ _ Iv.c_e]
theorem Env.co81_o (x : Env) : ∀ d ∈ Env.co81 x, Owned d := by simp [Env.co81, Owned.v, Owned.map _ _ _ _ Iv.c_o]
def i2 : TI := ⟨.int .i64, 1, 8, [.int .i64 0]⟩
theorem t2 : TyOk Tryz.prog 2 i2 := ⟨Tryz.underlying2, by kernel_rfl⟩
theorem z2 : ZOk Tryz.prog 2 i2 := ⟨t2, rfl⟩
def i4 : TI := ⟨.bool, 1, 1, [.bool false]⟩
theorem t4 : TyOk Tryz.prog 4 i4 := ⟨Tryz.underlying4, by kernel_rfl⟩
theorem z4 : ZOk Tryz.prog 4 i4 := ⟨t4, rfl⟩
def i9 : TI := ⟨.str, 1, 16, [.string .empty]⟩
theorem t9 : TyOk Tryz.prog 9 i9 := ⟨Tryz.underlying9, by kernel_rfl⟩
theorem z9 : ZOk Tryz.prog 9 i9 := ⟨t9, rfl⟩
def i22 : TI := ⟨.sl 9, 1, 24, [.slice none 0 0]⟩
theorem t22 : TyOk Tryz.prog 22 i22 := ⟨Tryz.underlying22, by kernel_rfl⟩
theorem z22 : ZOk Tryz.prog 22 i22 := ⟨t22, rfl⟩
def i79 : TI := ⟨.sl 112, 1, 24, [.slice none 0 0]⟩
theorem t79 : TyOk Tryz.prog 79 i79 := ⟨Tryz.underlying79, by kernel_rfl⟩
theorem z79 : ZOk Tryz.prog 79 i79 := ⟨t79, rfl⟩
def i81 : TI := ⟨.st [(0, 4), (1, 79), (2, 79)], 3, 56, [.bool false, .slice none 0 0, .slice none 0 0]⟩
theorem t81 : TyOk Tryz.prog 81 i81 := ⟨⟨_, Tryz.underlying81, rfl⟩, by kernel_rfl⟩
theorem z81 : ZOk Tryz.prog 81 i81 := ⟨t81, rfl⟩
theorem p81 : Places Tryz.prog [(0, 4), (1, 79), (2, 79)] [(0, 1), (1, 1), (2, 1)] := by unfold Places; kernel_rfl
def i112 : TI := ⟨.st [(0, 2), (1, 2)], 2, 16, [.int .i64 0, .int .i64 0]⟩
theorem t112 : TyOk Tryz.prog 112 i112 := ⟨⟨_, Tryz.underlying112, rfl⟩, by kernel_rfl⟩
theorem z112 : ZOk Tryz.prog 112 i112 := ⟨t112, rfl⟩
theorem p112 : Places Tryz.prog [(0, 2), (1, 2)] [(0, 1), (1, 1)] := by unfold Places; kernel_rfl
theorem c_l1In (n : Int) (lo : Int) (hi : Int) : Trip Tryz.prog 73 [(false, 1), (false, 1), (false, 1)] ([.v (.int .i64 (n))] ++ [.v (.int .i64 (lo))] ++ [.v (.int .i64 (hi))]) [(false, 1)] [.v (.bool (inR n lo hi))] [] := by
 refine Trip.of Tryz.func73 (by decide) (c := _) rfl rfl (Nat.le_of_ble_eq_true rfl) rfl (AftOk.nil _) <| .seq <| .rs fun k1 => .as rfl <| .z <| .seq ?_
 refine .reg (X := Unit) (fun ζ => .of [(6, .one (.d (.v (.bool ((decide (n ≥ lo) && decide (n ≤ hi)))))))] []) [⟨[0], some 7, [], []⟩, ⟨[1], some 8, [], []⟩, ⟨[7, 8], some 9, [], []⟩, ⟨[9], some 10, [], []⟩, ⟨[10, 0], some 11, [], []⟩, ⟨[10, 2], some 12, [], []⟩, ⟨[10, 11, 12], some 13, [], []⟩, ⟨[10, 13], some 14, [], []⟩, ⟨[14], some 6, [], []⟩] (fun k2 => ?_) ?_
 ·skip
  refine .move (.no rfl) rfl rfl rfl rfl <| .move (.no rfl) rfl rfl rfl rfl <| .bin (.no rfl) rfl rfl rfl rfl rfl rfl <| .moveB (.no rfl) rfl rfl rfl rfl fun b3 g1_3 => ?_
  cases b3
  ·skip
   refine .off rfl rfl rfl rfl rfl rfl rfl <| .off rfl rfl rfl rfl rfl rfl rfl <| .off rfl rfl rfl rfl rfl rfl rfl <| .pick (.no rfl) rfl rfl rfl rfl rfl <| .assign (.no rfl) rfl rfl rfl rfl ?_
   exact .fin () (.of (.cons (svB (show (false) = ((decide (n ≥ lo) && decide (n ≤ hi))) by first | (simp only [g1_3, Bool.true_or, Bool.false_or, Bool.true_and, Bool.false_and, Bool.not_true, Bool.not_false]; done) | simp [g1_3])) .nil) .nil)
  ·skip
   refine .move (.on rfl rfl rfl rfl rfl) rfl rfl rfl rfl <| .move (.on rfl rfl rfl rfl rfl) rfl rfl rfl rfl <| .bin (.on rfl rfl rfl rfl rfl) rfl rfl rfl rfl rfl rfl <| .pick (.no rfl) rfl rfl rfl rfl rfl <| .assign (.no rfl) rfl rfl rfl rfl ?_
   exact .fin () (.of (.cons (svB (show (decide (n ≤ hi)) = ((decide (n ≥ lo) && decide (n ≤ hi))) by first | (simp only [g1_3, Bool.true_or, Bool.false_or, Bool.true_and, Bool.false_and, Bool.not_true, Bool.not_false]; done) | simp [g1_3])) .nil) .nil)
 intro _
 refine .ret ?_
 exact fin0 (.inr rfl) (.one (svB (show ((decide (n ≥ lo) && decide (n ≤ hi))) = (inR n lo hi) by (first | rfl | simp_all [inR]))) .nil) (.dd .nil) rfl
theorem c_sIvOk (a : Iv) : Trip Tryz.prog 111 [(true, 2)] (Iv.c a) [(false, 1)] [.v (.bool (Iv.ok a))] [] := by
 refine Trip.of Tryz.func111 (by decide) (c := _) rfl rfl (Nat.le_of_ble_eq_true rfl) rfl (AftOk.nil _) <| .seq <| .rs fun k1 => .g (fun _ τ => ⟨_, .box (.no rfl) rfl rfl rfl rfl rfl τ⟩) <| .as rfl <| .z <| .seq <| .rs fun k2 => .fp t112 t2 rfl ?_
 refine .ld t2 rfl (.ptr _ _ _ _ _ rfl) rfl <| .fp t112 t2 rfl <| .ld t2 rfl (.ptr _ _ _ _ _ rfl) rfl <| .bi rfl <| .as rfl <| .z <| .ret ?_
 exact fin0 (.inr rfl) (.one (svB (show (decide (a.lo ≤ a.hi)) = (Iv.ok a) by rfl)) .nil) (.dd .nil) rfl
theorem c_l2Join (a : Iv) (b : Iv) : Trip Tryz.prog 152 [(true, 2), (true, 2)] (Iv.c a ++ Iv.c b) [(true, 2)] [.v (.int .i64 ((Iv.join a b).lo)), .v (.int .i64 ((Iv.join a b).hi))] [] := by
 refine Trip.of Tryz.func152 (by decide) (c := _) rfl rfl (Nat.le_of_ble_eq_true rfl) rfl (AftOk.nil _) <| .seq <| .rs fun k1 => .g (fun _ τ => ⟨_, .box (.no rfl) rfl rfl rfl rfl rfl τ⟩) <| .g (fun _ τ => ⟨_, .box (.no rfl) rfl rfl rfl rfl rfl τ⟩) <| .g (fun _ τ => ⟨_, .alloc (.no rfl) rfl z112 rfl rfl rfl τ⟩) <| .z <| .seq <| .rs fun k2 => ?_
 refine .fp t112 t2 rfl <| .ld t2 rfl (.ptr _ _ _ _ _ rfl) rfl <| .fp t112 t2 rfl <| .ld t2 rfl (.ptr _ _ _ _ _ rfl) rfl <| .g (fun _ τ => ⟨_, .min (.no rfl) rfl rfl rfl rfl (min_of _ _) rfl τ⟩) <| .fp t112 t2 rfl <| .ld t2 rfl (.ptr _ _ _ _ _ rfl) rfl <| .fp t112 t2 rfl <| .ld t2 rfl (.ptr _ _ _ _ _ rfl) rfl ?_
 refine .g (fun _ τ => ⟨_, .max (.no rfl) rfl rfl rfl rfl (max_of _ _) rfl τ⟩) <| .g (fun _ τ => ⟨_, .build (.no rfl) rfl z112 rfl p112 rfl rfl rfl rfl τ⟩) <| .g (fun _ τ => ⟨_, .store (.no rfl) rfl t112 rfl rfl rfl rfl rfl rfl rfl rfl rfl τ⟩) <| .z <| .ret ?_
 have e3 : (min a.lo b.lo) = ((Iv.join a b).lo) := by rfl
 have e4 : (max a.hi b.hi) = ((Iv.join a b).hi) := by rfl
 have hc5 := eq2 (fun z1 z2 => some (k1 + 1 + 1, k2 + 1 + 1 + 1 + 1 + 1 + 1 + 1 + 1 + 1 + 1 + 1, O.box [.d (.v (.int .i64 (z1))), .d (.v (.int .i64 (z2)))])) e3 e4
 exact fin0 (.inr rfl) (.cell (cells := [.d (.v (.int .i64 ((Iv.join a b).lo))), .d (.v (.int .i64 ((Iv.join a b).hi)))]) rfl hc5 t112 rfl rfl .nil) (.dd (.dd .nil)) rfl
theorem c_l3Key (s : ByteArray) : Trip Tryz.prog 109 [(false, 1)] ([.v (.string (s))]) [(false, 1)] [.v (.bool (isKey s))] [] := by
 refine Trip.of Tryz.func109 (by decide) (c := _) rfl rfl (Nat.le_of_ble_eq_true rfl) rfl (AftOk.nil _) <| .seq <| .rs fun k1 => .as rfl <| .z <| .seq <| .rs fun k2 => ?_
 refine .g (fun _ τ => ⟨_, .buildSlice (.no rfl) rfl (els := [[.v (.string ((⟨#[118, 97, 114]⟩ : ByteArray)))], [.v (.string ((⟨#[102, 108, 97, 103]⟩ : ByteArray)))], [.v (.string ((⟨#[97, 114, 114, 97, 121]⟩ : ByteArray)))], [.v (.string ((⟨#[105, 102]⟩ : ByteArray)))], [.v (.string ((⟨#[102, 111, 114, 107]⟩ : ByteArray)))], [.v (.string ((⟨#[101, 108, 115, 101]⟩ : ByteArray)))], [.v (.string ((⟨#[101, 110, 100]⟩ : ByteArray)))], [.v (.string ((⟨#[119, 104, 105, 108, 101]⟩ : ByteArray)))], [.v (.string ((⟨#[117, 110, 114, 111, 108, 108]⟩ : ByteArray)))], [.v (.string ((⟨#[97, 115, 115, 101, 114, 116]⟩ : ByteArray)))], [.v (.string ((⟨#[97, 115, 115, 117, 109, 101]⟩ : ByteArray)))], [.v (.string ((⟨#[105, 110, 112, 117, 116]⟩ : ByteArray)))], [.v (.string ((⟨#[115, 112, 108, 105, 116]⟩ : ByteArray)))], [.v (.string ((⟨#[109, 101, 114, 103, 101]⟩ : ByteArray)))], [.v (.string ((⟨#[116, 114, 117, 101]⟩ : ByteArray)))], [.v (.string ((⟨#[102, 97, 108, 115, 101]⟩ : ByteArray)))]]) t22 rfl z9 rfl rfl rfl rfl rfl rfl rfl rfl (by simp [i9]) (.cons _ _ _ _ _ _ (.d _) (.cons _ _ _ _ _ _ (.d _) (.cons _ _ _ _ _ _ (.d _) (.cons _ _ _ _ _ _ (.d _) (.cons _ _ _ _ _ _ (.d _) (.cons _ _ _ _ _ _ (.d _) (.cons _ _ _ _ _ _ (.d _) (.cons _ _ _ _ _ _ (.d _) (.cons _ _ _ _ _ _ (.d _) (.cons _ _ _ _ _ _ (.d _) (.cons _ _ _ _ _ _ (.d _) (.cons _ _ _ _ _ _ (.d _) (.cons _ _ _ _ _ _ (.d _) (.cons _ _ _ _ _ _ (.d _) (.cons _ _ _ _ _ _ (.d _) (.cons _ _ _ _ _ _ (.d _) .nil)))))))))))))))) rfl rfl rfl τ⟩) ?_
 refine .as rfl <| .z <| .seq <| .seq <| .rs fun k3 => .as rfl <| .z <| .block ?_
 refine .loop (X := Nat × Nat × Nat) (fun ζ => .of [(0, .one (.d (.v (.string (s))))), (3, .one (.ref [5] (ζ.2.1))), (4, .one (.d (.v (.int .i64 ((ζ.1 : Int))))))] [([5], (ζ.2.1, ζ.2.2, .row 9 1 (List.map strc (keys))))]) (fun ζ => ζ.1 ≤ keys.length ∧ allTo ζ.1 (fun i => !strEq (keys.getD i default) s) = true) (fun ζ => keys.length - ζ.1) ?_ ?_
 ·skip
  exact .here (0, k2, k2) (.of (.cons rfl (.cons rfl (.cons (svI (show (0) = ((0 : Int)) by first | rfl | omega | exact wrap_le (by omega) (by omega) | (rw [wrap_le (by omega) (by omega)]; omega))) .nil))) (.cons (rowE (show [[.v (.string ((⟨#[118, 97, 114]⟩ : ByteArray)))], [.v (.string ((⟨#[102, 108, 97, 103]⟩ : ByteArray)))], [.v (.string ((⟨#[97, 114, 114, 97, 121]⟩ : ByteArray)))], [.v (.string ((⟨#[105, 102]⟩ : ByteArray)))], [.v (.string ((⟨#[102, 111, 114, 107]⟩ : ByteArray)))], [.v (.string ((⟨#[101, 108, 115, 101]⟩ : ByteArray)))], [.v (.string ((⟨#[101, 110, 100]⟩ : ByteArray)))], [.v (.string ((⟨#[119, 104, 105, 108, 101]⟩ : ByteArray)))], [.v (.string ((⟨#[117, 110, 114, 111, 108, 108]⟩ : ByteArray)))], [.v (.string ((⟨#[97, 115, 115, 101, 114, 116]⟩ : ByteArray)))], [.v (.string ((⟨#[97, 115, 115, 117, 109, 101]⟩ : ByteArray)))], [.v (.string ((⟨#[105, 110, 112, 117, 116]⟩ : ByteArray)))], [.v (.string ((⟨#[115, 112, 108, 105, 116]⟩ : ByteArray)))], [.v (.string ((⟨#[109, 101, 114, 103, 101]⟩ : ByteArray)))], [.v (.string ((⟨#[116, 114, 117, 101]⟩ : ByteArray)))], [.v (.string ((⟨#[102, 97, 108, 115, 101]⟩ : ByteArray)))]] = List.map strc (keys) by rfl)) .nil)) (show 0 ≤ keys.length ∧ allTo 0 (fun i => !strEq (keys.getD i default) s) = true by exact ⟨by omega, rfl⟩)
 ·rintro ⟨j, q4, q5⟩ hI
  have hI : j ≤ keys.length ∧ allTo j (fun i => !strEq (keys.getD i default) s) = true := hI
  have hk9 : keys.length = 16 := rfl
  dsimp only
  refine .seq <| .seq <| .rs fun k6 => .mv rfl <| .mv rfl <| .g (fun _ τ => ⟨_, .len (.no rfl) rfl (z := (keys.length : Int)) t22 rfl rfl rfl (.ref _ _ _ _ _ rfl) (map_len _ _) rfl τ⟩) <| .bi rfl <| .z ?_
  refine .cond (t := decide ((j : Int) < (keys.length : Int))) rfl (fun c0 => ?_) (fun c0 => ?_)
  ·have c0 := of_decide_eq_true c0
   refine .skip <| .seq <| .block <| .seq <| .rs fun k7 => .mv rfl <| .mv rfl <| .g (fun _ τ => ⟨_, .indexAddr (.no rfl) rfl (j) t22 rfl t9 rfl rfl rfl (.ref _ _ _ _ _ rfl) rfl rfl rfl (map_get (by omega)) rfl rfl τ⟩) <| .ld t9 rfl (.eptr _ _ _ _ _ _ _ _ _ rfl (map_get (by omega))) rfl ?_
   refine .mv rfl <| .bi rfl <| .z ?_
   refine .cond (t := (keys.getD j default).toList == s.toList) rfl (fun c1 => ?_) (fun c1 => ?_)
   ·have c1 := c1
    refine .seq <| .rs fun k8 => .as rfl <| .z <| .ret ?_
    exact fin0 (.inr rfl) (.one (svB (show (true) = (isKey s) by exact (any_found (p := fun x => strEq x s) (j := j) (by omega) c1).symm)) .nil) (.dd .nil) rfl
   ·have c1 := c1
    refine .skip <| .rs fun k10 => .mv rfl <| .bi rfl <| .as rfl <| .z ?_
    exact .here ((j + 1), q4, q5) (.of (.cons rfl (.cons rfl (.cons (svI (show (IntKind.wrap .i64 ((j : Int) + 1)) = (((j + 1) : Int)) by first | rfl | omega | exact wrap_le (by omega) (by omega) | (rw [wrap_le (by omega) (by omega)]; omega))) .nil))) (.r rfl)) ⟨(show (j + 1) ≤ keys.length ∧ allTo (j + 1) (fun i => !strEq (keys.getD i default) s) = true by exact ⟨by omega, allTo_step hI.2 (by rw [show strEq (keys.getD j default) s = false from c1]; rfl)⟩), (show keys.length - (j + 1) < keys.length - j by omega)⟩
  ·have c0 := of_decide_eq_false c0
   refine .exit <| .seq <| .rs fun k11 => .as rfl <| .z <| .ret ?_
   exact fin0 (.inr rfl) (.one (svB (show (false) = (isKey s) by exact (any_none (p := fun x => strEq x s) (j := j) (by omega) hI.2).symm)) .nil) (.dd .nil) rfl
theorem c_l3Name (s : ByteArray) (hs : s.size ≤ 9223372036854775807) : Trip Tryz.prog 74 [(false, 1)] ([.v (.string (s))]) [(false, 1)] [.v (.bool (nmOk s))] [] := by
 refine Trip.of Tryz.func74 (by decide) (c := _) rfl rfl (Nat.le_of_ble_eq_true rfl) rfl (AftOk.nil _) <| .seq <| .rs fun k1 => .as rfl <| .z <| .seq <| .seq <| .rs fun k2 => .as rfl ?_
 refine .z <| .block ?_
 refine .loop (X := Nat) (fun ζ => .of [(0, .one (.d (.v (.string (s))))), (3, .one (.d (.v (.int .i64 ((ζ : Int))))))] []) (fun ζ => ζ ≤ s.size ∧ allTo ζ (fun i => decide (97 ≤ byteAt s i ∧ byteAt s i ≤ 122)) = true) (fun ζ => s.size - ζ) ?_ ?_
 ·skip
  exact .here 0 (.of (.cons rfl (.cons (svI (show (0) = ((0 : Int)) by first | rfl | omega | exact wrap_le (by omega) (by omega) | (rw [wrap_le (by omega) (by omega)]; omega))) .nil)) .nil) (show 0 ≤ s.size ∧ allTo 0 (fun i => decide (97 ≤ byteAt s i ∧ byteAt s i ≤ 122)) = true by exact ⟨by omega, rfl⟩)
 ·rintro j hI
  have hI : j ≤ s.size ∧ allTo j (fun i => decide (97 ≤ byteAt s i ∧ byteAt s i ≤ 122)) = true := hI
  refine .seq <| .seq <| .rs fun k3 => .mv rfl <| .mv rfl <| .g (fun _ τ => ⟨_, .lenStr (.no rfl) rfl t9 rfl rfl rfl rfl rfl τ⟩) <| .bi rfl <| .z ?_
  refine .cond (t := decide ((j : Int) < (s.size : Int))) rfl (fun c0 => ?_) (fun c0 => ?_)
  ·have c0 := of_decide_eq_true c0
   refine .skip <| .seq <| .block <| .seq ?_
   refine .reg (X := Unit) (fun ζ => .of [(0, .one (.d (.v (.string (s))))), (3, .one (.d (.v (.int .i64 ((j : Int)))))), (19, .one (.d (.v (.bool ((decide ((byteAt s j) < 97) || decide ((byteAt s j) > 122)))))))] []) [⟨[0], some 10, [], []⟩, ⟨[3], some 11, [], []⟩, ⟨[10, 11], some 12, [], []⟩, ⟨[12], some 13, [], []⟩, ⟨[13], some 14, [], []⟩, ⟨[14, 0], some 15, [], []⟩, ⟨[14, 3], some 16, [], []⟩, ⟨[14, 15, 16], some 17, [], []⟩, ⟨[14, 17], some 18, [], []⟩, ⟨[14, 18], some 19, [], []⟩] (fun k4 => ?_) ?_
   ·skip
    refine .move (.no rfl) rfl rfl rfl rfl <| .move (.no rfl) rfl rfl rfl rfl <| .indexStr (.no rfl) rfl (z := byteAt s j) (j) t9 rfl rfl rfl rfl rfl (b8_get (by omega)) rfl rfl <| .bin (.no rfl) rfl rfl rfl rfl rfl rfl <| .moveB (.no rfl) rfl rfl rfl rfl fun b5 g4_4 => ?_
    cases b5
    ·skip
     refine .move (.on rfl rfl rfl rfl rfl) rfl rfl rfl rfl <| .move (.on rfl rfl rfl rfl rfl) rfl rfl rfl rfl <| .indexStr (.on rfl rfl rfl rfl rfl) rfl (z := byteAt s j) (j) t9 rfl rfl rfl rfl rfl (b8_get (by omega)) rfl rfl <| .bin (.on rfl rfl rfl rfl rfl) rfl rfl rfl rfl rfl rfl <| .pick (.no rfl) rfl rfl rfl rfl rfl ?_
     exact .fin () (.of (.cons rfl (.cons rfl (.cons (svB (show (decide ((byteAt s j) > 122)) = ((decide ((byteAt s j) < 97) || decide ((byteAt s j) > 122))) by first | (simp only [g4_4, Bool.true_or, Bool.false_or, Bool.true_and, Bool.false_and, Bool.not_true, Bool.not_false]; done) | simp [g4_4])) .nil))) .nil)
    ·skip
     refine .off rfl rfl rfl rfl rfl rfl rfl <| .off rfl rfl rfl rfl rfl rfl rfl <| .off rfl rfl rfl rfl rfl rfl rfl <| .off rfl rfl rfl rfl rfl rfl rfl <| .pick (.no rfl) rfl rfl rfl rfl rfl ?_
     exact .fin () (.of (.cons rfl (.cons rfl (.cons (svB (show (true) = ((decide ((byteAt s j) < 97) || decide ((byteAt s j) > 122))) by first | (simp only [g4_4, Bool.true_or, Bool.false_or, Bool.true_and, Bool.false_and, Bool.not_true, Bool.not_false]; done) | simp [g4_4])) .nil))) .nil)
   intro _
   refine .cond (t := (decide ((byteAt s j) < 97) || decide ((byteAt s j) > 122))) rfl (fun c1 => ?_) (fun c1 => ?_)
   ·have c1 := (oT dT dT) c1
    refine .seq <| .rs fun k6 => .as rfl <| .z <| .ret ?_
    exact fin0 (.inr rfl) (.one (svB (show (false) = (nmOk s) by (simp only [nmOk, letters]; rw [allTo_fail (j := j) (by omega) (by have h9 := byteAt_le s j; simp only [decide_eq_false_iff_not]; omega)]; rfl))) .nil) (.dd .nil) rfl
   ·have c1 := (oF dF dF) c1
    refine .skip <| .rs fun k8 => .mv rfl <| .bi rfl <| .as rfl <| .z ?_
    exact .here (j + 1) (.of (.cons rfl (.cons (svI (show (IntKind.wrap .i64 ((j : Int) + 1)) = (((j + 1) : Int)) by first | rfl | omega | exact wrap_le (by omega) (by omega) | (rw [wrap_le (by omega) (by omega)]; omega))) .nil)) .nil) ⟨(show (j + 1) ≤ s.size ∧ allTo (j + 1) (fun i => decide (97 ≤ byteAt s i ∧ byteAt s i ≤ 122)) = true by exact ⟨by omega, allTo_step hI.2 (by simp only [decide_eq_true_eq]; omega)⟩), (show s.size - (j + 1) < s.size - j by omega)⟩
  ·have c0 := of_decide_eq_false c0
   refine .exit <| .seq ?_
   refine .reg (X := Unit) (fun ζ => .of [(2, .one (.d (.v (.bool ((inR (s.size : Int) 1 8 && !(isKey s)))))))] []) [⟨[0], some 20, [], []⟩, ⟨[20], some 21, [], []⟩, ⟨[21], some 22, [], []⟩, ⟨[22], some 23, [], []⟩, ⟨[23, 0], some 24, [], []⟩, ⟨[23, 24], some 25, [], []⟩, ⟨[23, 25], some 26, [], []⟩, ⟨[23, 26], some 27, [], []⟩, ⟨[27], some 2, [], []⟩] (fun k9 => ?_) ?_
   ·skip
    refine .move (.no rfl) rfl rfl rfl rfl <| .lenStr (.no rfl) rfl t9 rfl rfl rfl rfl rfl <| .call (.no rfl) rfl [] [] (c_l1In (s.size : Int) 1 8) rfl rfl rfl rfl rfl (.dd (.dd (.dd .nil))) rfl rfl (fun h => absurd rfl h) (.own [22, 0] .nil) (.nil) rfl rfl rfl (by simp) rfl rfl rfl <| .moveB (.no rfl) rfl rfl rfl rfl fun b10 g6_3 => ?_
    cases b10
    ·skip
     refine .off rfl rfl rfl rfl rfl rfl rfl <| .off rfl rfl rfl rfl rfl rfl rfl <| .off rfl rfl rfl rfl rfl rfl rfl <| .pick (.no rfl) rfl rfl rfl rfl rfl <| .assign (.no rfl) rfl rfl rfl rfl ?_
     exact .fin () (.of (.cons (svB (show (false) = ((inR (s.size : Int) 1 8 && !(isKey s))) by first | (simp only [g6_3, Bool.true_or, Bool.false_or, Bool.true_and, Bool.false_and, Bool.not_true, Bool.not_false]; done) | simp [g6_3])) .nil) .nil)
    ·skip
     refine .move (.on rfl rfl rfl rfl rfl) rfl rfl rfl rfl <| .call (.on rfl rfl rfl rfl rfl) rfl [] [] (c_l3Key s) rfl rfl rfl rfl rfl (.dd .nil) rfl rfl (fun h => absurd rfl h) (.own [25, 0] .nil) (.nil) rfl rfl rfl (by simp) rfl rfl rfl <| .un (.on rfl rfl rfl rfl rfl) rfl rfl rfl rfl rfl <| .pick (.no rfl) rfl rfl rfl rfl rfl <| .assign (.no rfl) rfl rfl rfl rfl ?_
     exact .fin () (.of (.cons (svB (show (!(isKey s)) = ((inR (s.size : Int) 1 8 && !(isKey s))) by first | (simp only [g6_3, Bool.true_or, Bool.false_or, Bool.true_and, Bool.false_and, Bool.not_true, Bool.not_false]; done) | simp [g6_3])) .nil) .nil)
   intro _
   refine .ret ?_
   exact fin0 (.inr rfl) (.one (svB (show ((inR (s.size : Int) 1 8 && !(isKey s))) = (nmOk s) by (have hj : j = s.size := (by omega); subst hj; simp only [nmOk, letters]; rw [hI.2]; first | rfl | simp_all))) .nil) (.dd .nil) rfl
theorem c_l3Place (l : List ByteArray) (s : ByteArray) : Trip Tryz.prog 75 [(false, 1), (false, 1)] ([.sl false 9 1 (List.map strc (l))] ++ [.v (.string (s))]) [(false, 1)] [.v (.int .i64 (place l s))] [] := by
 refine Trip.of Tryz.func75 (by decide) (c := _) rfl rfl (Nat.le_of_ble_eq_true rfl) rfl (AftOk.nil _) <| .sl (t := 0) rfl fun hs1l => .seq <| .rs fun k2 => .as rfl <| .z <| .seq <| .seq <| .rs fun k3 => ?_
 refine .as rfl <| .z <| .block ?_
 refine .loop (X := Nat) (fun ζ => .of [(0, .one (.d (.sl false 9 1 (List.map strc (l))))), (1, .one (.d (.v (.string (s))))), (5, .one (.d (.v (.int .i64 ((ζ : Int))))))] []) (fun ζ => ζ ≤ l.length ∧ allTo ζ (fun i => !strEq (l.getD i default) s) = true) (fun ζ => l.length - ζ) ?_ ?_
 ·skip
  exact .here 0 (.of (.cons rfl (.cons rfl (.cons (svI (show (0) = ((0 : Int)) by first | rfl | omega | exact wrap_le (by omega) (by omega) | (rw [wrap_le (by omega) (by omega)]; omega))) .nil))) .nil) (show 0 ≤ l.length ∧ allTo 0 (fun i => !strEq (l.getD i default) s) = true by exact ⟨by omega, rfl⟩)
 ·rintro j hI
  have hI : j ≤ l.length ∧ allTo j (fun i => !strEq (l.getD i default) s) = true := hI
  refine .seq <| .seq <| .rs fun k4 => .mv rfl <| .mv rfl <| .g (fun _ τ => ⟨_, .len (.no rfl) rfl (z := (l.length : Int)) t22 rfl rfl rfl (.d _ _) (map_len _ _) rfl τ⟩) <| .bi rfl <| .z ?_
  refine .cond (t := decide ((j : Int) < (l.length : Int))) rfl (fun c0 => ?_) (fun c0 => ?_)
  ·have c0 := of_decide_eq_true c0
   refine .skip <| .seq <| .block <| .seq <| .rs fun k5 => .mv rfl <| .mv rfl <| .g (fun _ τ => ⟨_, .indexAddr (.no rfl) rfl (j) t22 rfl t9 rfl rfl rfl (.d _ _) rfl rfl rfl (map_get (by omega)) rfl rfl τ⟩) <| .ld t9 rfl (.d _) rfl ?_
   refine .mv rfl <| .bi rfl <| .z ?_
   refine .cond (t := (l.getD j default).toList == s.toList) rfl (fun c1 => ?_) (fun c1 => ?_)
   ·have c1 := c1
    refine .seq <| .rs fun k6 => .mv rfl <| .as rfl <| .z <| .ret ?_
    exact fin0 (.inr rfl) (.one (svI (show ((j : Int)) = (place l s) by exact (idx_found (p := fun x => strEq x s) (by omega) hI.2 c1).symm)) .nil) (.dd .nil) rfl
   ·have c1 := c1
    refine .skip <| .rs fun k8 => .mv rfl <| .bi rfl <| .as rfl <| .z ?_
    exact .here (j + 1) (.of (.cons rfl (.cons rfl (.cons (svI (show (IntKind.wrap .i64 ((j : Int) + 1)) = (((j + 1) : Int)) by first | rfl | omega | exact wrap_le (by omega) (by omega) | (rw [wrap_le (by omega) (by omega)]; omega))) .nil))) .nil) ⟨(show (j + 1) ≤ l.length ∧ allTo (j + 1) (fun i => !strEq (l.getD i default) s) = true by exact ⟨by omega, allTo_step hI.2 (by rw [show strEq (l.getD j default) s = false from c1]; rfl)⟩), (show l.length - (j + 1) < l.length - j by omega)⟩
  ·have c0 := of_decide_eq_false c0
   refine .exit <| .seq <| .rs fun k9 => .as rfl <| .z <| .ret ?_
   exact fin0 (.inr rfl) (.one (svI (show (-1) = (place l s) by exact (idx_none (p := fun x => strEq x s) (j := j) (by omega) hI.2).symm)) .nil) (.dd .nil) rfl
theorem c_l6List (e : Env) (hb : e.ints.length ≤ 1048576 ∧ e.arrs.length ≤ 1048576) : Trip Tryz.prog 110 [(true, 3)] (Env.c81 e) [(false, 1)] [.sl true 112 2 (List.map Iv.c (e.ints ++ e.arrs))] [] := by
 refine Trip.of Tryz.func110 (by decide) (c := _) rfl rfl (Nat.le_of_ble_eq_true rfl) rfl (AftOk.nil _) <| .sla (t := 0) 1 rfl rfl fun hs1l => .sla (t := 0) 2 rfl rfl fun hs2l => .seq <| .rs fun k3 => .g (fun _ τ => ⟨_, .box (.no rfl) rfl rfl rfl rfl rfl τ⟩) <| .as rfl <| .z <| .seq ?_
 refine .regD (X := Nat) (by kernel_rfl) (fun ζ => .of [(2, .one (.ref [3] (ζ)))] [([3], (ζ, ζ, .row 112 2 (List.map Iv.c (e.ints ++ e.arrs))))]) [⟨[], some 3, [], [[3]]⟩, ⟨[1], some 4, [], []⟩, ⟨[4], some 5, [[1]], []⟩, ⟨[3, 5], some 6, [[3]], [[3]]⟩, ⟨[1], some 7, [], []⟩, ⟨[7], some 8, [[1]], []⟩, ⟨[6, 8], some 9, [[3]], [[3]]⟩, ⟨[9], some 2, [], []⟩] (by kernel_rfl) (fun k4 => ?_) ?_
 ·skip
  refine .buildSlice (.no rfl) rfl (els := []) t79 rfl z112 rfl rfl rfl rfl rfl rfl rfl rfl (by simp [i112]) .nil rfl rfl rfl <| .fieldAddrP (.no rfl) rfl t81 rfl rfl t79 rfl rfl rfl rfl <| .load (.no rfl) rfl t79 rfl rfl (.ptr _ _ _ _ _ rfl) rfl rfl rfl rfl <| .append (.no rfl) rfl (l3 := List.map Iv.c (e.ints)) t79 rfl z112 rfl rfl rfl rfl rfl rfl rfl rfl (.ref _ _ _ _ rfl) (.ro _ _) rfl (by simp [i112]; omega) (List.nil_append _) rfl rfl <| .fieldAddrP (.no rfl) rfl t81 rfl rfl t79 rfl rfl rfl rfl <| .load (.no rfl) rfl t79 rfl rfl (.ptr _ _ _ _ _ rfl) rfl rfl rfl rfl <| .append (.no rfl) rfl (l3 := List.map Iv.c (e.ints ++ e.arrs)) t79 rfl z112 rfl rfl rfl rfl rfl rfl rfl rfl (.ref _ _ _ _ rfl) (.ro _ _) rfl (by simp [i112]; omega) (map_app _ _ _) rfl rfl <| .assign (.no rfl) rfl rfl rfl rfl ?_
  exact .fin (k4 + 1 + 1 + 1 + 1 + 1 + 1) (.of (.r rfl) (.r rfl))
 intro g5
 refine .ret ?_
 exact fin1 (.inr rfl) [] [([3], (g5, g5, .row 112 2 (List.map Iv.c (e.ints ++ e.arrs))))] (.one rfl .nil) (.cons (.ref (.head _)) .nil) rfl rfl (.r rfl)
theorem c_l6Copy (e : Env) (hb : e.ints.length ≤ 1048576 ∧ e.arrs.length ≤ 1048576) : Trip Tryz.prog 84 [(true, 3)] (Env.c81 e) [(true, 3)] [.v (.bool (e.live)), .sl true 112 2 (List.map Iv.c (e.ints)), .sl true 112 2 (List.map Iv.c (e.arrs))] [] := by
 refine Trip.of Tryz.func84 (by decide) (c := _) rfl rfl (Nat.le_of_ble_eq_true rfl) rfl (AftOk.nil _) <| .sla (t := 0) 1 rfl rfl fun hs1l => .sla (t := 0) 2 rfl rfl fun hs2l => .seq <| .rs fun k3 => .g (fun _ τ => ⟨_, .box (.no rfl) rfl rfl rfl rfl rfl τ⟩) <| .g (fun _ τ => ⟨_, .alloc (.no rfl) rfl z81 rfl rfl rfl τ⟩) <| .z <| .seq ?_
 refine .regD (X := Nat × Nat × Nat) (by kernel_rfl) (fun ζ => .of [(2, .one (.ptr [2] (k3 + 1) 0))] [([2], (k3 + 1, ζ.1, .box [.d (.v (.bool (e.live))), .ref [5] (ζ.2.1), .ref [9] (ζ.2.2)])), ([5], (ζ.2.1, ζ.2.1, .row 112 2 (List.map Iv.c (e.ints)))), ([9], (ζ.2.2, ζ.2.2, .row 112 2 (List.map Iv.c (e.arrs))))]) [⟨[1], some 3, [], []⟩, ⟨[3], some 4, [[1]], []⟩, ⟨[], some 5, [], [[5]]⟩, ⟨[1], some 6, [], []⟩, ⟨[6], some 7, [[1]], []⟩, ⟨[5, 7], some 8, [[5]], [[5]]⟩, ⟨[], some 9, [], [[9]]⟩, ⟨[1], some 10, [], []⟩, ⟨[10], some 11, [[1]], []⟩, ⟨[9, 11], some 12, [[9]], [[9]]⟩, ⟨[4, 8, 12], some 13, [], []⟩, ⟨[2, 13], none, [[2]], [[2]]⟩] (by kernel_rfl) (fun k4 => ?_) ?_
 ·skip
  refine .fieldAddrP (.no rfl) rfl t81 rfl rfl t4 rfl rfl rfl rfl <| .load (.no rfl) rfl t4 rfl rfl (.ptr _ _ _ _ _ rfl) rfl rfl rfl rfl <| .buildSlice (.no rfl) rfl (els := []) t79 rfl z112 rfl rfl rfl rfl rfl rfl rfl rfl (by simp [i112]) .nil rfl rfl rfl <| .fieldAddrP (.no rfl) rfl t81 rfl rfl t79 rfl rfl rfl rfl <| .load (.no rfl) rfl t79 rfl rfl (.ptr _ _ _ _ _ rfl) rfl rfl rfl rfl <| .append (.no rfl) rfl (l3 := List.map Iv.c (e.ints)) t79 rfl z112 rfl rfl rfl rfl rfl rfl rfl rfl (.ref _ _ _ _ rfl) (.ro _ _) rfl (by simp [i112]; omega) (List.nil_append _) rfl rfl <| .buildSlice (.no rfl) rfl (els := []) t79 rfl z112 rfl rfl rfl rfl rfl rfl rfl rfl (by simp [i112]) .nil rfl rfl rfl <| .fieldAddrP (.no rfl) rfl t81 rfl rfl t79 rfl rfl rfl rfl <| .load (.no rfl) rfl t79 rfl rfl (.ptr _ _ _ _ _ rfl) rfl rfl rfl rfl ?_
  refine .append (.no rfl) rfl (l3 := List.map Iv.c (e.arrs)) t79 rfl z112 rfl rfl rfl rfl rfl rfl rfl rfl (.ref _ _ _ _ rfl) (.ro _ _) rfl (by simp [i112]; omega) (List.nil_append _) rfl rfl <| .build (.no rfl) rfl z81 rfl p81 rfl rfl rfl rfl <| .store (.no rfl) rfl t81 rfl rfl rfl rfl rfl rfl rfl rfl rfl ?_
  exact .fin (k4 + 1 + 1 + 1 + 1 + 1 + 1 + 1 + 1 + 1 + 1 + 1, k4 + 1 + 1 + 1 + 1 + 1, k4 + 1 + 1 + 1 + 1 + 1 + 1 + 1 + 1 + 1) (.of (.r rfl) (.r rfl))
 rintro ⟨g5, g6, g7⟩
 refine .ret ?_
 exact fin1 (.inr rfl) [] [([5], (g6, g6, .row 112 2 (List.map Iv.c (e.ints)))), ([9], (g7, g7, .row 112 2 (List.map Iv.c (e.arrs))))] (.cell (cells := [.d (.v (.bool (e.live))), .ref [5] (g6), .ref [9] (g7)]) rfl rfl t81 rfl rfl .nil) (.dd (.cons (.ref (.head _)) (.cons (.ref (.tail _ (.head _))) .nil))) rfl rfl (.r rfl)
end Go.Proofs

namespace Go.Proofs
open Go Go.Proofs Go.Ev

def Arr.c (x : Arr) : List D := [.v (.string (x.name)), .v (.int .i64 (x.size))]
theorem Arr.c_o (x : Arr) : ∀ d ∈ Arr.c x, Owned d := by simp [Arr.c, Owned.v]
theorem Arr.c_e (x : Arr) : (Arr.c x).map D.erase = Arr.c x := by simp [Arr.c, D.erase_v]
def Decl.c33 (x : Decl) : List D := [.sl false 9 1 (List.map strc (x.vars)), .sl false 9 1 (List.map strc (x.flags)), .sl false 89 2 (List.map Arr.c (x.arrays))]
theorem Decl.c33_e (x : Decl) : (Decl.c33 x).map D.erase = Decl.c33 x := by simp [Decl.c33, D.erase_v, erase_slo _ _ _ _ _ _ strc_e, erase_slo _ _ _ _ _ _ Arr.c_e]
def Decl.co33 (x : Decl) : List D := [.sl true 9 1 (List.map strc (x.vars)), .sl true 9 1 (List.map strc (x.flags)), .sl true 89 2 (List.map Arr.c (x.arrays))]
theorem Decl.co33_e (x : Decl) : (Decl.co33 x).map D.erase = Decl.c33 x := by simp [Decl.co33, Decl.c33, D.erase_v, erase_slo _ _ _ _ _ _ strc_e, erase_slo _ _ _ _ _ _ Arr.c_e]
theorem Decl.co33_o (x : Decl) : ∀ d ∈ Decl.co33 x, Owned d := by simp [Decl.co33, Owned.v, Owned.map _ _ _ _ strc_o, Owned.map _ _ _ _ Arr.c_o]
def i31 : TI := ⟨.sl 89, 1, 24, [.slice none 0 0]⟩
theorem t31 : TyOk Tryz.prog 31 i31 := ⟨Tryz.underlying31, by kernel_rfl⟩
theorem z31 : ZOk Tryz.prog 31 i31 := ⟨t31, rfl⟩
def i33 : TI := ⟨.st [(0, 22), (1, 22), (2, 31)], 3, 72, [.slice none 0 0, .slice none 0 0, .slice none 0 0]⟩
theorem t33 : TyOk Tryz.prog 33 i33 := ⟨⟨_, Tryz.underlying33, rfl⟩, by kernel_rfl⟩
theorem z33 : ZOk Tryz.prog 33 i33 := ⟨t33, rfl⟩
theorem p33 : Places Tryz.prog [(0, 22), (1, 22), (2, 31)] [(0, 1), (1, 1), (2, 1)] := by unfold Places; kernel_rfl
def i89 : TI := ⟨.st [(0, 9), (1, 2)], 2, 24, [.string .empty, .int .i64 0]⟩
theorem t89 : TyOk Tryz.prog 89 i89 := ⟨⟨_, Tryz.underlying89, rfl⟩, by kernel_rfl⟩
theorem z89 : ZOk Tryz.prog 89 i89 := ⟨t89, rfl⟩
theorem p89 : Places Tryz.prog [(0, 9), (1, 2)] [(0, 1), (1, 1)] := by unfold Places; kernel_rfl
theorem c_sDeclOk (d : Decl) (hs : ∀ x ∈ Decl.names d, x.size ≤ 9223372036854775807) (hb : d.vars.length ≤ 1048576 ∧ d.flags.length ≤ 1048576 ∧ d.arrays.length ≤ 1048576) : Trip Tryz.prog 43 [(true, 3)] (Decl.c33 d) [(false, 1)] [.v (.bool (Decl.ok d))] [] := by
 refine Trip.of Tryz.func43 (by decide) (c := _) rfl rfl (Nat.le_of_ble_eq_true rfl) rfl (AftOk.nil _) <| .sla (t := 0) 0 rfl rfl fun hs1l => .sla (t := 0) 1 rfl rfl fun hs2l => .sla (t := 0) 2 rfl rfl fun hs3l => .seq <| .rs fun k4 => .g (fun _ τ => ⟨_, .box (.no rfl) rfl rfl rfl rfl rfl τ⟩) <| .as rfl <| .z ?_
 refine .seq <| .seq ?_
 refine .reg (X := Unit) (fun ζ => .of [(1, .one (.ptr [1] (k4) 0)), (21, .one (.d (.v (.bool (((decide ((d.vars.length : Int) > 5) || decide ((d.flags.length : Int) > 3)) || decide ((d.arrays.length : Int) > 2)))))))] [([1], (k4, k4, .box [.d (.sl false 9 1 (List.map strc (d.vars))), .d (.sl false 9 1 (List.map strc (d.flags))), .d (.sl false 89 2 (List.map Arr.c (d.arrays)))]))]) [⟨[1], some 6, [], []⟩, ⟨[6], some 7, [[1]], []⟩, ⟨[7], some 8, [], []⟩, ⟨[8], some 9, [], []⟩, ⟨[9], some 10, [], []⟩, ⟨[10, 1], some 11, [], []⟩, ⟨[10, 11], some 12, [[1]], []⟩, ⟨[10, 12], some 13, [], []⟩, ⟨[10, 13], some 14, [], []⟩, ⟨[10, 14], some 15, [], []⟩, ⟨[15], some 16, [], []⟩, ⟨[16, 1], some 17, [], []⟩, ⟨[16, 17], some 18, [[1]], []⟩, ⟨[16, 18], some 19, [], []⟩, ⟨[16, 19], some 20, [], []⟩, ⟨[16, 20], some 21, [], []⟩] (fun k5 => ?_) ?_
 ·skip
  refine .fieldAddrP (.no rfl) rfl t33 rfl rfl t22 rfl rfl rfl rfl <| .load (.no rfl) rfl t22 rfl rfl (.ptr _ _ _ _ _ rfl) rfl rfl rfl rfl <| .len (.no rfl) rfl (z := (d.vars.length : Int)) t22 rfl rfl rfl (.d _ _) (map_len _ _) rfl <| .bin (.no rfl) rfl rfl rfl rfl rfl rfl <| .moveB (.no rfl) rfl rfl rfl rfl fun b6 g1_4 => ?_
  cases b6
  ·skip
   refine .fieldAddrP (.on rfl rfl rfl rfl rfl) rfl t33 rfl rfl t22 rfl rfl rfl rfl <| .load (.on rfl rfl rfl rfl rfl) rfl t22 rfl rfl (.ptr _ _ _ _ _ rfl) rfl rfl rfl rfl <| .len (.on rfl rfl rfl rfl rfl) rfl (z := (d.flags.length : Int)) t22 rfl rfl rfl (.d _ _) (map_len _ _) rfl <| .bin (.on rfl rfl rfl rfl rfl) rfl rfl rfl rfl rfl rfl <| .pick (.no rfl) rfl rfl rfl rfl rfl <| .moveB (.no rfl) rfl rfl rfl rfl fun b7 g1_10 => ?_
   cases b7
   ·skip
    refine .fieldAddrP (.on rfl rfl rfl rfl rfl) rfl t33 rfl rfl t31 rfl rfl rfl rfl <| .load (.on rfl rfl rfl rfl rfl) rfl t31 rfl rfl (.ptr _ _ _ _ _ rfl) rfl rfl rfl rfl <| .len (.on rfl rfl rfl rfl rfl) rfl (z := (d.arrays.length : Int)) t31 rfl rfl rfl (.d _ _) (map_len _ _) rfl <| .bin (.on rfl rfl rfl rfl rfl) rfl rfl rfl rfl rfl rfl <| .pick (.no rfl) rfl rfl rfl rfl rfl ?_
    exact .fin () (.of (.cons rfl (.cons (svB (show (decide ((d.arrays.length : Int) > 2)) = (((decide ((d.vars.length : Int) > 5) || decide ((d.flags.length : Int) > 3)) || decide ((d.arrays.length : Int) > 2))) by first | (simp only [g1_4, g1_10, Bool.true_or, Bool.false_or, Bool.true_and, Bool.false_and, Bool.not_true, Bool.not_false]; done) | simp [g1_4, g1_10])) .nil)) (.r rfl))
   ·skip
    refine .off rfl rfl rfl rfl rfl rfl rfl <| .off rfl rfl rfl rfl rfl rfl rfl <| .off rfl rfl rfl rfl rfl rfl rfl <| .off rfl rfl rfl rfl rfl rfl rfl <| .pick (.no rfl) rfl rfl rfl rfl rfl ?_
    exact .fin () (.of (.cons rfl (.cons (svB (show (true) = (((decide ((d.vars.length : Int) > 5) || decide ((d.flags.length : Int) > 3)) || decide ((d.arrays.length : Int) > 2))) by first | (simp only [g1_4, g1_10, Bool.true_or, Bool.false_or, Bool.true_and, Bool.false_and, Bool.not_true, Bool.not_false]; done) | simp [g1_4, g1_10])) .nil)) (.r rfl))
  ·skip
   refine .off rfl rfl rfl rfl rfl rfl rfl <| .off rfl rfl rfl rfl rfl rfl rfl <| .off rfl rfl rfl rfl rfl rfl rfl <| .off rfl rfl rfl rfl rfl rfl rfl <| .pick (.no rfl) rfl rfl rfl rfl rfl <| .move (.no rfl) rfl rfl rfl rfl <| .off rfl rfl rfl rfl rfl rfl rfl <| .off rfl rfl rfl rfl rfl rfl rfl <| .off rfl rfl rfl rfl rfl rfl rfl ?_
   refine .off rfl rfl rfl rfl rfl rfl rfl <| .pick (.no rfl) rfl rfl rfl rfl rfl ?_
   exact .fin () (.of (.cons rfl (.cons (svB (show (true) = (((decide ((d.vars.length : Int) > 5) || decide ((d.flags.length : Int) > 3)) || decide ((d.arrays.length : Int) > 2))) by first | (simp only [g1_4, Bool.true_or, Bool.false_or, Bool.true_and, Bool.false_and, Bool.not_true, Bool.not_false]; done) | simp [g1_4])) .nil)) (.r rfl))
 intro _
 refine .cond (t := ((decide ((d.vars.length : Int) > 5) || decide ((d.flags.length : Int) > 3)) || decide ((d.arrays.length : Int) > 2))) rfl (fun c0 => ?_) (fun c0 => ?_)
 ·have c0 := (oT (oT dT dT) dT) c0
  refine .seq <| .rs fun k8 => .as rfl <| .z <| .ret ?_
  exact fin0 (.inr rfl) (.one (svB (show (false) = (Decl.ok d) by exact (Decl.ok_ne (by omega)).symm)) .nil) (.dd .nil) rfl
 ·have c0 := (oF (oF dF dF) dF) c0
  refine .skip <| .seq ?_
  refine .regD (X := Nat) (by kernel_rfl) (fun ζ => .of [(1, .one (.ptr [1] (k4) 0)), (3, .one (.ref [22] (ζ)))] [([1], (k4, k4, .box [.d (.sl false 9 1 (List.map strc (d.vars))), .d (.sl false 9 1 (List.map strc (d.flags))), .d (.sl false 89 2 (List.map Arr.c (d.arrays)))])), ([22], (ζ, ζ, .row 9 1 (List.map strc (d.vars ++ d.flags))))]) [⟨[], some 22, [], [[22]]⟩, ⟨[1], some 23, [], []⟩, ⟨[23], some 24, [[1]], []⟩, ⟨[22, 24], some 25, [[22]], [[22]]⟩, ⟨[1], some 26, [], []⟩, ⟨[26], some 27, [[1]], []⟩, ⟨[25, 27], some 28, [[22]], [[22]]⟩, ⟨[28], some 3, [], []⟩] (by kernel_rfl) (fun k10 => ?_) ?_
  ·skip
   refine .buildSlice (.no rfl) rfl (els := []) t22 rfl z9 rfl rfl rfl rfl rfl rfl rfl rfl (by simp [i9]) .nil rfl rfl rfl <| .fieldAddrP (.no rfl) rfl t33 rfl rfl t22 rfl rfl rfl rfl <| .load (.no rfl) rfl t22 rfl rfl (.ptr _ _ _ _ _ rfl) rfl rfl rfl rfl <| .append (.no rfl) rfl (l3 := List.map strc (d.vars)) t22 rfl z9 rfl rfl rfl rfl rfl rfl rfl rfl (.ref _ _ _ _ rfl) (.ro _ _) rfl (by simp [i9]; omega) (List.nil_append _) rfl rfl <| .fieldAddrP (.no rfl) rfl t33 rfl rfl t22 rfl rfl rfl rfl <| .load (.no rfl) rfl t22 rfl rfl (.ptr _ _ _ _ _ rfl) rfl rfl rfl rfl <| .append (.no rfl) rfl (l3 := List.map strc (d.vars ++ d.flags)) t22 rfl z9 rfl rfl rfl rfl rfl rfl rfl rfl (.ref _ _ _ _ rfl) (.ro _ _) rfl (by simp [i9]; omega) (map_app _ _ _) rfl rfl <| .assign (.no rfl) rfl rfl rfl rfl ?_
   exact .fin (k10 + 1 + 1 + 1 + 1 + 1 + 1) (.of (.r rfl) (.r rfl))
  intro g11
  refine .seq <| .seq <| .rs fun k12 => .as rfl <| .z <| .block ?_
  refine .loop (X := Nat × Nat × Nat) (fun ζ => .of [(1, .one (.ptr [1] (k4) 0)), (3, .one (.ref [22] (ζ.2.1))), (4, .one (.d (.v (.int .i64 ((ζ.1 : Int))))))] [([1], (k4, k4, .box [.d (.sl false 9 1 (List.map strc (d.vars))), .d (.sl false 9 1 (List.map strc (d.flags))), .d (.sl false 89 2 (List.map Arr.c (d.arrays)))])), ([22], (ζ.2.1, ζ.2.2, .row 9 1 (List.map strc (d.vars ++ d.flags ++ (d.arrays.take ζ.1).map Arr.name))))]) (fun ζ => ζ.1 ≤ d.arrays.length ∧ allTo ζ.1 (fun i => inR (d.arrays.getD i default).size 1 16) = true) (fun ζ => d.arrays.length - ζ.1) ?_ ?_
  ·skip
   exact .here (0, g11, g11) (.of (.cons rfl (.cons rfl (.cons (svI (show (0) = ((0 : Int)) by first | rfl | omega | exact wrap_le (by omega) (by omega) | (rw [wrap_le (by omega) (by omega)]; omega))) .nil))) (.cons rfl (.cons (rowE (show List.map strc (d.vars ++ d.flags) = List.map strc (d.vars ++ d.flags ++ (d.arrays.take 0).map Arr.name) by first | (simp; done) | (rw [List.append_assoc (d.vars ++ d.flags), take_step (f := Arr.name) (by omega)]) | (simp only [Decl.names]; rw [List.take_of_length_le (by omega)]))) .nil))) (show 0 ≤ d.arrays.length ∧ allTo 0 (fun i => inR (d.arrays.getD i default).size 1 16) = true by exact ⟨by omega, rfl⟩)
  ·rintro ⟨j, q13, q14⟩ hI
   have hI : j ≤ d.arrays.length ∧ allTo j (fun i => inR (d.arrays.getD i default).size 1 16) = true := hI
   dsimp only
   refine .seq <| .seq <| .rs fun k15 => .mv rfl <| .fp t33 t31 rfl <| .ld t31 rfl (.ptr _ _ _ _ _ rfl) rfl <| .g (fun _ τ => ⟨_, .len (.no rfl) rfl (z := (d.arrays.length : Int)) t31 rfl rfl rfl (.d _ _) (map_len _ _) rfl τ⟩) <| .bi rfl <| .z ?_
   refine .cond (t := decide ((j : Int) < (d.arrays.length : Int))) rfl (fun c1 => ?_) (fun c1 => ?_)
   ·have c1 := of_decide_eq_true c1
    refine .skip <| .seq <| .block <| .seq <| .seq <| .rs fun k16 => .fp t33 t31 rfl <| .ld t31 rfl (.ptr _ _ _ _ _ rfl) rfl <| .mv rfl ?_
    refine .g (fun _ τ => ⟨_, .indexAddr (.no rfl) rfl (j) t31 rfl t89 rfl rfl rfl (.d _ _) rfl rfl rfl (map_get (by omega)) rfl rfl τ⟩) <| .g (fun _ τ => ⟨_, .fieldAddr (.no rfl) rfl t89 rfl rfl t2 rfl rfl rfl rfl [] (by simp) (by intro _ _ _ h; cases h) rfl rfl τ⟩) <| .ld t2 rfl (.d _) rfl <| .c0 (c_l1In ((d.arrays.getD j default).size) 1 16) rfl (.dd (.dd (.dd .nil))) (.own [42, 0] .nil) rfl <| .un rfl <| .z ?_
    refine .cond (t := !(inR ((d.arrays.getD j default).size) 1 16)) rfl (fun c2 => ?_) (fun c2 => ?_)
    ·have c2 := (nT id) c2
     refine .seq <| .rs fun k17 => .as rfl <| .z <| .ret ?_
     exact fin0 (.inr rfl) (.one (svB (show (false) = (Decl.ok d) by exact (Decl.ok_size (j := j) (by omega) c2).symm)) .nil) (.dd .nil) rfl
    ·have c2 := (nF id) c2
     refine .skip <| .rs fun k19 => .mv rfl <| .fp t33 t31 rfl <| .ld t31 rfl (.ptr _ _ _ _ _ rfl) rfl <| .mv rfl <| .g (fun _ τ => ⟨_, .indexAddr (.no rfl) rfl (j) t31 rfl t89 rfl rfl rfl (.d _ _) rfl rfl rfl (map_get (by omega)) rfl rfl τ⟩) <| .g (fun _ τ => ⟨_, .fieldAddr (.no rfl) rfl t89 rfl rfl t9 rfl rfl rfl rfl [] (by simp) (by intro _ _ _ h; cases h) rfl rfl τ⟩) <| .ld t9 rfl (.d _) rfl ?_
     refine .g (fun _ τ => ⟨_, .buildSlice (.no rfl) rfl (els := [[.v (.string ((d.arrays.getD j default).name))]]) t22 rfl z9 rfl rfl rfl rfl rfl rfl rfl rfl (by simp [i9]) (.cons _ _ _ _ _ _ (.d _) .nil) rfl rfl rfl τ⟩) <| .g (fun _ τ => ⟨_, .append (.no rfl) rfl (l3 := List.map strc (d.vars ++ d.flags ++ (d.arrays.take j).map Arr.name ++ [(d.arrays.getD j default).name])) t22 rfl z9 rfl rfl rfl rfl rfl rfl rfl rfl (.ref _ _ _ _ rfl) (.take _ _ _ _ _ rfl) rfl (by simp [i9]; omega) (map_snoc _ _ _) rfl rfl τ⟩) <| .as rfl <| .z <| .rs fun k20 => .mv rfl <| .bi rfl <| .as rfl <| .z ?_
     exact .here ((j + 1), (k19 + 1 + 1 + 1 + 1 + 1 + 1 + 1 + 1), (k19 + 1 + 1 + 1 + 1 + 1 + 1 + 1 + 1)) (.of (.cons rfl (.cons (by show SV.one (.ref [22] (k19 + 1 + 1 + 1 + 1 + 1 + 1 + 1 + 1)) = SV.one (.ref [22] ((k19 + 1 + 1 + 1 + 1 + 1 + 1 + 1 + 1))); first | rfl | simp_all) (.cons (svI (show (IntKind.wrap .i64 ((j : Int) + 1)) = (((j + 1) : Int)) by first | rfl | omega | exact wrap_le (by omega) (by omega) | (rw [wrap_le (by omega) (by omega)]; omega))) .nil))) (.cons rfl (.cons (rowE (show List.map strc (d.vars ++ d.flags ++ (d.arrays.take j).map Arr.name ++ [(d.arrays.getD j default).name]) = List.map strc (d.vars ++ d.flags ++ (d.arrays.take (j + 1)).map Arr.name) by first | (simp; done) | (rw [List.append_assoc (d.vars ++ d.flags), take_step (f := Arr.name) (by omega)]) | (simp only [Decl.names]; rw [List.take_of_length_le (by omega)]))) .nil))) ⟨(show (j + 1) ≤ d.arrays.length ∧ allTo (j + 1) (fun i => inR (d.arrays.getD i default).size 1 16) = true by exact ⟨by omega, allTo_step hI.2 (by simpa using c2)⟩), (show d.arrays.length - (j + 1) < d.arrays.length - j by omega)⟩
   ·have c1 := of_decide_eq_false c1
    refine .exit <| .seq <| .seq <| .rs fun k21 => .as rfl <| .z <| .block ?_
    refine .loop (X := Nat × Nat × Nat) (fun ζ => .of [(3, .one (.ref [22] (ζ.2.1))), (5, .one (.d (.v (.int .i64 ((ζ.1 : Int))))))] [([22], (ζ.2.1, ζ.2.2, .row 9 1 (List.map strc (Decl.names d))))]) (fun ζ => ζ.1 ≤ (Decl.names d).length ∧ allTo ζ.1 (nameOk (Decl.names d)) = true) (fun ζ => (Decl.names d).length - ζ.1) ?_ ?_
    ·skip
     exact .here (0, q13, q14) (.of (.cons rfl (.cons (svI (show (0) = ((0 : Int)) by first | rfl | omega | exact wrap_le (by omega) (by omega) | (rw [wrap_le (by omega) (by omega)]; omega))) .nil)) (.cons (rowE (show List.map strc (d.vars ++ d.flags ++ (d.arrays.take j).map Arr.name) = List.map strc (Decl.names d) by first | (simp; done) | (rw [List.append_assoc (d.vars ++ d.flags), take_step (f := Arr.name) (by omega)]) | (simp only [Decl.names]; rw [List.take_of_length_le (by omega)]))) .nil)) (show 0 ≤ (Decl.names d).length ∧ allTo 0 (nameOk (Decl.names d)) = true by exact ⟨by omega, rfl⟩)
    ·rintro ⟨i, q22, q23⟩ hI
     have hI : i ≤ (Decl.names d).length ∧ allTo i (nameOk (Decl.names d)) = true := hI
     have hI0 := ‹j ≤ d.arrays.length ∧ _›
     have hn9 : (Decl.names d).length ≤ 3145728 := by simp [Decl.names]; omega
     dsimp only
     refine .seq <| .seq <| .rs fun k24 => .mv rfl <| .mv rfl <| .g (fun _ τ => ⟨_, .len (.no rfl) rfl (z := ((Decl.names d).length : Int)) t22 rfl rfl rfl (.ref _ _ _ _ _ rfl) (map_len _ _) rfl τ⟩) <| .bi rfl <| .z ?_
     refine .cond (t := decide ((i : Int) < ((Decl.names d).length : Int))) rfl (fun c3 => ?_) (fun c3 => ?_)
     ·have c3 := of_decide_eq_true c3
      refine .skip <| .seq <| .block <| .seq ?_
      refine .regD (X := Unit) (by kernel_rfl) (fun ζ => .of [(3, .one (.ref [22] (q22))), (5, .one (.d (.v (.int .i64 ((i : Int)))))), (75, .one (.d (.v (.bool ((!(nmOk ((Decl.names d).getD (i) default)) || decide ((place ((Decl.names d).take i) ((Decl.names d).getD (i) default)) ≥ 0)))))))] [([22], (q22, q23, .row 9 1 (List.map strc (Decl.names d))))]) [⟨[3], some 59, [], []⟩, ⟨[5], some 60, [], []⟩, ⟨[59, 60], some 61, [[22]], []⟩, ⟨[61], some 62, [[22]], []⟩, ⟨[62], some 63, [], []⟩, ⟨[63], some 64, [], []⟩, ⟨[64], some 65, [], []⟩, ⟨[65, 3], some 66, [], []⟩, ⟨[65, 5], some 67, [], []⟩, ⟨[65, 66, 67], some 68, [[22]], []⟩, ⟨[65, 3], some 69, [], []⟩, ⟨[65, 5], some 70, [], []⟩, ⟨[65, 69, 70], some 71, [[22]], []⟩, ⟨[65, 71], some 72, [[22]], []⟩, ⟨[65, 68, 72], some 73, [[22]], []⟩, ⟨[65, 73], some 74, [], []⟩, ⟨[65, 74], some 75, [], []⟩] (by kernel_rfl) (fun k25 => ?_) ?_
      ·skip
       refine .move (.no rfl) rfl rfl rfl rfl <| .move (.no rfl) rfl rfl rfl rfl <| .indexAddr (.no rfl) rfl (i) t22 rfl t9 rfl rfl rfl (.ref _ _ _ _ _ rfl) rfl rfl rfl (map_get (by omega)) rfl rfl <| .load (.no rfl) rfl t9 rfl rfl (.eptr _ _ _ _ _ _ _ _ _ rfl (map_get (by omega))) rfl rfl rfl rfl <| .call (.no rfl) rfl [] [] (c_l3Name ((Decl.names d).getD (i) default) (by exact hs _ (getD_mem (by omega)))) rfl rfl rfl rfl rfl (.dd .nil) rfl rfl (fun h => absurd rfl h) (.own [63, 0] .nil) (.nil) rfl rfl rfl (by simp) rfl rfl rfl <| .un (.no rfl) rfl rfl rfl rfl rfl <| .moveB (.no rfl) rfl rfl rfl rfl fun b26 g13_6 => ?_
       cases b26
       ·skip
        refine .move (.on rfl rfl rfl rfl rfl) rfl rfl rfl rfl <| .move (.on rfl rfl rfl rfl rfl) rfl rfl rfl rfl <| .slice (.on rfl rfl rfl rfl rfl) rfl (lv := 0) (hv := i) (m := q23) t22 rfl t9 rfl rfl (.ref _ _ _ _ _ rfl) rfl (by intro _ _ h; cases h; exact ⟨_, .head _⟩) (by exact rfl) (by exact ⟨_, rfl⟩) (Nat.zero_le _) (le_map (by omega)) rfl rfl <| .move (.on rfl rfl rfl rfl rfl) rfl rfl rfl rfl <| .move (.on rfl rfl rfl rfl rfl) rfl rfl rfl rfl <| .indexAddr (.on rfl rfl rfl rfl rfl) rfl (i) t22 rfl t9 rfl rfl rfl (.ref _ _ _ _ _ rfl) rfl rfl rfl (map_get (by omega)) rfl rfl <| .load (.on rfl rfl rfl rfl rfl) rfl t9 rfl rfl (.eptr _ _ _ _ _ _ _ _ _ rfl (map_get (by omega))) rfl rfl rfl rfl ?_
        refine .call (.on rfl rfl rfl rfl rfl) rfl [[22]] [([22], (q22, q23, .row 9 1 (List.map strc (Decl.names d))))] (c_l3Place ((Decl.names d).take i) ((Decl.names d).getD (i) default)) rfl rfl rfl rfl rfl (.cons (Reads.cut (Frz.of_erase (erase_takeo _ _ _ _ _ _ strc_e)) (le_map (by omega)) (.head _) (.head _)).gives (.dd .nil)) rfl rfl (fun _ => (ownCons (Owned.v _) ownNil)) (.own [73, 0] .nil) (.nil) rfl rfl rfl (AllH.get (.r rfl)) rfl rfl rfl <| .bin (.on rfl rfl rfl rfl rfl) rfl rfl rfl rfl rfl rfl <| .pick (.no rfl) rfl rfl rfl rfl rfl ?_
        exact .fin () (.of (.cons rfl (.cons rfl (.cons (svB (show (decide ((place ((Decl.names d).take i) ((Decl.names d).getD (i) default)) ≥ 0)) = ((!(nmOk ((Decl.names d).getD (i) default)) || decide ((place ((Decl.names d).take i) ((Decl.names d).getD (i) default)) ≥ 0))) by first | (simp only [g13_6, Bool.true_or, Bool.false_or, Bool.true_and, Bool.false_and, Bool.not_true, Bool.not_false]; done) | simp [g13_6])) .nil))) (.r rfl))
       ·skip
        refine .off rfl rfl rfl rfl rfl rfl rfl <| .off rfl rfl rfl rfl rfl rfl rfl <| .off rfl rfl rfl rfl rfl rfl rfl <| .off rfl rfl rfl rfl rfl rfl rfl <| .off rfl rfl rfl rfl rfl rfl rfl <| .off rfl rfl rfl rfl rfl rfl rfl <| .off rfl rfl rfl rfl rfl rfl rfl <| .off rfl rfl rfl rfl rfl rfl rfl <| .off rfl rfl rfl rfl rfl rfl rfl ?_
        refine .pick (.no rfl) rfl rfl rfl rfl rfl ?_
        exact .fin () (.of (.cons rfl (.cons rfl (.cons (svB (show (true) = ((!(nmOk ((Decl.names d).getD (i) default)) || decide ((place ((Decl.names d).take i) ((Decl.names d).getD (i) default)) ≥ 0))) by first | (simp only [g13_6, Bool.true_or, Bool.false_or, Bool.true_and, Bool.false_and, Bool.not_true, Bool.not_false]; done) | simp [g13_6])) .nil))) (.r rfl))
      intro _
      refine .cond (t := (!(nmOk ((Decl.names d).getD (i) default)) || decide ((place ((Decl.names d).take i) ((Decl.names d).getD (i) default)) ≥ 0))) rfl (fun c4 => ?_) (fun c4 => ?_)
      ·have c4 := (oT (nT id) dT) c4
       refine .seq <| .rs fun k27 => .as rfl <| .z <| .ret ?_
       exact fin0 (.inr rfl) (.one (svB (show (false) = (Decl.ok d) by exact (Decl.ok_name (j := i) (by omega) c4).symm)) .nil) (.dd .nil) rfl
      ·have c4 := (oF (nF id) dF) c4
       refine .skip <| .rs fun k29 => .mv rfl <| .bi rfl <| .as rfl <| .z ?_
       exact .here ((i + 1), q22, q23) (.of (.cons rfl (.cons (svI (show (IntKind.wrap .i64 ((i : Int) + 1)) = (((i + 1) : Int)) by first | rfl | omega | exact wrap_le (by omega) (by omega) | (rw [wrap_le (by omega) (by omega)]; omega))) .nil)) (.r rfl)) ⟨(show (i + 1) ≤ (Decl.names d).length ∧ allTo (i + 1) (nameOk (Decl.names d)) = true by exact ⟨by omega, allTo_step hI.2 (nameOk_of c4)⟩), (show (Decl.names d).length - (i + 1) < (Decl.names d).length - i by omega)⟩
     ·have c3 := of_decide_eq_false c3
      refine .exit <| .seq <| .rs fun k30 => .as rfl <| .z <| .ret ?_
      exact fin0 (.inr rfl) (.one (svB (show (true) = (Decl.ok d) by exact (Decl.ok_done (by omega) hI0.2 (by omega) (j := i) (by omega) hI.2).symm)) .nil) (.dd .nil) rfl
end Go.Proofs

namespace Go.Proofs
open Go Go.Proofs Go.Ev

theorem c_sEnvOk (d : Decl) (e : Env) (hs : ∀ x ∈ Decl.names d, x.size ≤ 9223372036854775807) (hb : d.vars.length ≤ 1048576 ∧ d.flags.length ≤ 1048576 ∧ d.arrays.length ≤ 1048576) (he : e.ints.length ≤ 1048576 ∧ e.arrs.length ≤ 1048576) : Trip Tryz.prog 77 [(true, 3), (true, 3)] (Decl.c33 d ++ Env.c81 e) [(false, 1)] [.v (.bool (Decl.ok d && Env.okIn d e))] [] := by
 refine Trip.of Tryz.func77 (by decide) (c := _) rfl rfl (Nat.le_of_ble_eq_true rfl) rfl (AftOk.nil _) <| .sla (t := 0) 0 rfl rfl fun hs1l => .sla (t := 0) 1 rfl rfl fun hs2l => .sla (t := 0) 2 rfl rfl fun hs3l => .sla (t := 1) 1 rfl rfl fun hs4l => .sla (t := 1) 2 rfl rfl fun hs5l => .seq <| .rs fun k6 => .g (fun _ τ => ⟨_, .box (.no rfl) rfl rfl rfl rfl rfl τ⟩) ?_
 refine .g (fun _ τ => ⟨_, .box (.no rfl) rfl rfl rfl rfl rfl τ⟩) <| .as rfl <| .z <| .seq <| .seq <| .rs fun k7 => .lda t33 rfl (.ptr _ _ _ _ _ rfl) rfl <| .c0 (c_sDeclOk d (by first | assumption | omega) (by first | assumption | omega)) rfl (.dd (.dd (.dd .nil))) (.own [8, 0] .nil) rfl <| .un rfl ?_
 refine .z ?_
 refine .cond (t := !(Decl.ok d)) rfl (fun c0 => ?_) (fun c0 => ?_)
 ·have c0 := (nT id) c0
  refine .seq <| .rs fun k8 => .as rfl <| .z <| .ret ?_
  exact fin0 (.inr rfl) (.one (svB (show (false) = (Decl.ok d && Env.okIn d e) by simp [c0])) .nil) (.dd .nil) rfl
 ·have c0 := (nF id) c0
  refine .skip <| .seq <| .seq <| .rs fun k10 => .fp t81 t4 rfl <| .ld t4 rfl (.ptr _ _ _ _ _ rfl) rfl <| .un rfl <| .z ?_
  refine .cond (t := !e.live) rfl (fun c1 => ?_) (fun c1 => ?_)
  ·have c1 := (nT id) c1
   refine .seq ?_
   refine .reg (X := Unit) (fun ζ => .of [(4, .one (.d (.v (.bool (((e.ints.length : Int) == 0 && (e.arrs.length : Int) == 0))))))] []) [⟨[3], some 13, [], []⟩, ⟨[13], some 14, [[3]], []⟩, ⟨[14], some 15, [], []⟩, ⟨[15], some 16, [], []⟩, ⟨[16], some 17, [], []⟩, ⟨[17, 3], some 18, [], []⟩, ⟨[17, 18], some 19, [[3]], []⟩, ⟨[17, 19], some 20, [], []⟩, ⟨[17, 20], some 21, [], []⟩, ⟨[17, 21], some 22, [], []⟩, ⟨[22], some 4, [], []⟩] (fun k11 => ?_) ?_
   ·skip
    refine .fieldAddrP (.no rfl) rfl t81 rfl rfl t79 rfl rfl rfl rfl <| .load (.no rfl) rfl t79 rfl rfl (.ptr _ _ _ _ _ rfl) rfl rfl rfl rfl <| .len (.no rfl) rfl (z := (e.ints.length : Int)) t79 rfl rfl rfl (.d _ _) (map_len _ _) rfl <| .bin (.no rfl) rfl rfl rfl rfl rfl rfl <| .moveB (.no rfl) rfl rfl rfl rfl fun b12 g4_4 => ?_
    cases b12
    ·skip
     refine .off rfl rfl rfl rfl rfl rfl rfl <| .off rfl rfl rfl rfl rfl rfl rfl <| .off rfl rfl rfl rfl rfl rfl rfl <| .off rfl rfl rfl rfl rfl rfl rfl <| .pick (.no rfl) rfl rfl rfl rfl rfl <| .assign (.no rfl) rfl rfl rfl rfl ?_
     exact .fin () (.of (.cons (svB (show (false) = (((e.ints.length : Int) == 0 && (e.arrs.length : Int) == 0)) by first | (simp only [g4_4, Bool.true_or, Bool.false_or, Bool.true_and, Bool.false_and, Bool.not_true, Bool.not_false]; done) | simp [g4_4])) .nil) .nil)
    ·skip
     refine .fieldAddrP (.on rfl rfl rfl rfl rfl) rfl t81 rfl rfl t79 rfl rfl rfl rfl <| .load (.on rfl rfl rfl rfl rfl) rfl t79 rfl rfl (.ptr _ _ _ _ _ rfl) rfl rfl rfl rfl <| .len (.on rfl rfl rfl rfl rfl) rfl (z := (e.arrs.length : Int)) t79 rfl rfl rfl (.d _ _) (map_len _ _) rfl <| .bin (.on rfl rfl rfl rfl rfl) rfl rfl rfl rfl rfl rfl <| .pick (.no rfl) rfl rfl rfl rfl rfl <| .assign (.no rfl) rfl rfl rfl rfl ?_
     exact .fin () (.of (.cons (svB (show ((e.arrs.length : Int) == 0) = (((e.ints.length : Int) == 0 && (e.arrs.length : Int) == 0)) by first | (simp only [g4_4, Bool.true_or, Bool.false_or, Bool.true_and, Bool.false_and, Bool.not_true, Bool.not_false]; done) | simp [g4_4])) .nil) .nil)
   intro _
   refine .ret ?_
   exact fin0 (.inr rfl) (.one (svB (show (((e.ints.length : Int) == 0 && (e.arrs.length : Int) == 0)) = (Decl.ok d && Env.okIn d e) by simp [c0, c1, Env.okIn])) .nil) (.dd .nil) rfl
  ·have c1 := (nF id) c1
   refine .skip <| .seq <| .seq ?_
   refine .reg (X := Unit) (fun ζ => .of [(3, .one (.ptr [3] (k6 + 1) 0)), (38, .one (.d (.v (.bool (((e.ints.length : Int) != (d.vars.length : Int) || (e.arrs.length : Int) != (d.arrays.length : Int)))))))] [([3], (k6 + 1, k6 + 1, .box [.d (.v (.bool (e.live))), .d (.sl false 112 2 (List.map Iv.c (e.ints))), .d (.sl false 112 2 (List.map Iv.c (e.arrs)))]))]) [⟨[3], some 23, [], []⟩, ⟨[23], some 24, [[3]], []⟩, ⟨[24], some 25, [], []⟩, ⟨[2], some 26, [], []⟩, ⟨[26], some 27, [[2]], []⟩, ⟨[27], some 28, [], []⟩, ⟨[25, 28], some 29, [], []⟩, ⟨[29], some 30, [], []⟩, ⟨[30, 3], some 31, [], []⟩, ⟨[30, 31], some 32, [[3]], []⟩, ⟨[30, 32], some 33, [], []⟩, ⟨[30, 2], some 34, [], []⟩, ⟨[30, 34], some 35, [[2]], []⟩, ⟨[30, 35], some 36, [], []⟩, ⟨[30, 33, 36], some 37, [], []⟩, ⟨[30, 37], some 38, [], []⟩] (fun k14 => ?_) ?_
   ·skip
    refine .fieldAddrP (.no rfl) rfl t81 rfl rfl t79 rfl rfl rfl rfl <| .load (.no rfl) rfl t79 rfl rfl (.ptr _ _ _ _ _ rfl) rfl rfl rfl rfl <| .len (.no rfl) rfl (z := (e.ints.length : Int)) t79 rfl rfl rfl (.d _ _) (map_len _ _) rfl <| .fieldAddrP (.no rfl) rfl t33 rfl rfl t22 rfl rfl rfl rfl <| .load (.no rfl) rfl t22 rfl rfl (.ptr _ _ _ _ _ rfl) rfl rfl rfl rfl <| .len (.no rfl) rfl (z := (d.vars.length : Int)) t22 rfl rfl rfl (.d _ _) (map_len _ _) rfl <| .bin (.no rfl) rfl rfl rfl rfl rfl rfl <| .moveB (.no rfl) rfl rfl rfl rfl fun b15 g5_7 => ?_
    cases b15
    ·skip
     refine .fieldAddrP (.on rfl rfl rfl rfl rfl) rfl t81 rfl rfl t79 rfl rfl rfl rfl <| .load (.on rfl rfl rfl rfl rfl) rfl t79 rfl rfl (.ptr _ _ _ _ _ rfl) rfl rfl rfl rfl <| .len (.on rfl rfl rfl rfl rfl) rfl (z := (e.arrs.length : Int)) t79 rfl rfl rfl (.d _ _) (map_len _ _) rfl <| .fieldAddrP (.on rfl rfl rfl rfl rfl) rfl t33 rfl rfl t31 rfl rfl rfl rfl <| .load (.on rfl rfl rfl rfl rfl) rfl t31 rfl rfl (.ptr _ _ _ _ _ rfl) rfl rfl rfl rfl <| .len (.on rfl rfl rfl rfl rfl) rfl (z := (d.arrays.length : Int)) t31 rfl rfl rfl (.d _ _) (map_len _ _) rfl <| .bin (.on rfl rfl rfl rfl rfl) rfl rfl rfl rfl rfl rfl <| .pick (.no rfl) rfl rfl rfl rfl rfl ?_
     exact .fin () (.of (.cons rfl (.cons (svB (show ((e.arrs.length : Int) != (d.arrays.length : Int)) = (((e.ints.length : Int) != (d.vars.length : Int) || (e.arrs.length : Int) != (d.arrays.length : Int))) by first | (simp only [g5_7, Bool.true_or, Bool.false_or, Bool.true_and, Bool.false_and, Bool.not_true, Bool.not_false]; done) | simp [g5_7])) .nil)) (.r rfl))
    ·skip
     refine .off rfl rfl rfl rfl rfl rfl rfl <| .off rfl rfl rfl rfl rfl rfl rfl <| .off rfl rfl rfl rfl rfl rfl rfl <| .off rfl rfl rfl rfl rfl rfl rfl <| .off rfl rfl rfl rfl rfl rfl rfl <| .off rfl rfl rfl rfl rfl rfl rfl <| .off rfl rfl rfl rfl rfl rfl rfl <| .pick (.no rfl) rfl rfl rfl rfl rfl ?_
     exact .fin () (.of (.cons rfl (.cons (svB (show (true) = (((e.ints.length : Int) != (d.vars.length : Int) || (e.arrs.length : Int) != (d.arrays.length : Int))) by first | (simp only [g5_7, Bool.true_or, Bool.false_or, Bool.true_and, Bool.false_and, Bool.not_true, Bool.not_false]; done) | simp [g5_7])) .nil)) (.r rfl))
   intro _
   refine .cond (t := ((e.ints.length : Int) != (d.vars.length : Int) || (e.arrs.length : Int) != (d.arrays.length : Int))) rfl (fun c2 => ?_) (fun c2 => ?_)
   ·have c2 := (oT bT bT) c2
    refine .seq <| .rs fun k16 => .as rfl <| .z <| .ret ?_
    exact fin0 (.inr rfl) (.one (svB (show (false) = (Decl.ok d && Env.okIn d e) by simp only [c0, Env.okIn, c1]; simp; omega)) .nil) (.dd .nil) rfl
   ·have c2 := (oF bF bF) c2
    refine .skip <| .seq <| .rs fun k18 => .lda t81 rfl (.ptr _ _ _ _ _ rfl) rfl <| .c0 (c_l6List e (by first | assumption | omega)) rfl (.dd (.dd (.dd .nil))) (.frz [40, 0] (Frz.of_erase (erase_slo _ _ _ _ _ _ Iv.c_e)) .nil) rfl <| .as rfl <| .z <| .seq <| .seq ?_
    refine .rs fun k19 => .as rfl <| .z <| .block ?_
    refine .loop (X := Nat) (fun ζ => .of [(5, .one (.d (.sl false 112 2 (List.map Iv.c (e.ints ++ e.arrs))))), (6, .one (.d (.v (.int .i64 ((ζ : Int))))))] []) (fun ζ => ζ ≤ (e.ints ++ e.arrs).length ∧ allTo ζ (fun x => Iv.ok ((e.ints ++ e.arrs).getD x default)) = true) (fun ζ => (e.ints ++ e.arrs).length - ζ) ?_ ?_
    ·skip
     exact .here 0 (.of (.cons rfl (.cons (svI (show (0) = ((0 : Int)) by first | rfl | omega | exact wrap_le (by omega) (by omega) | (rw [wrap_le (by omega) (by omega)]; omega))) .nil)) .nil) (show 0 ≤ (e.ints ++ e.arrs).length ∧ allTo 0 (fun x => Iv.ok ((e.ints ++ e.arrs).getD x default)) = true by exact ⟨by omega, rfl⟩)
    ·rintro j hI
     have hI : j ≤ (e.ints ++ e.arrs).length ∧ allTo j (fun x => Iv.ok ((e.ints ++ e.arrs).getD x default)) = true := hI
     have hn9 : (e.ints ++ e.arrs).length ≤ 3145728 := by simp; omega
     refine .seq <| .seq <| .rs fun k20 => .mv rfl <| .mv rfl <| .g (fun _ τ => ⟨_, .len (.no rfl) rfl (z := ((e.ints ++ e.arrs).length : Int)) t79 rfl rfl rfl (.d _ _) (map_len _ _) rfl τ⟩) <| .bi rfl <| .z ?_
     refine .cond (t := decide ((j : Int) < ((e.ints ++ e.arrs).length : Int))) rfl (fun c3 => ?_) (fun c3 => ?_)
     ·have c3 := of_decide_eq_true c3
      refine .skip <| .seq <| .block <| .seq <| .rs fun k21 => .mv rfl <| .mv rfl <| .g (fun _ τ => ⟨_, .indexAddr (.no rfl) rfl (j) t79 rfl t112 rfl rfl rfl (.d _ _) rfl rfl rfl (map_get (by omega)) rfl rfl τ⟩) <| .lda t112 rfl (.d _) rfl ?_
      refine .c0 (c_sIvOk ((e.ints ++ e.arrs).getD (j) default)) rfl (.dd (.dd .nil)) (.own [51, 0] .nil) rfl <| .un rfl <| .z ?_
      refine .cond (t := !(Iv.ok ((e.ints ++ e.arrs).getD (j) default))) rfl (fun c4 => ?_) (fun c4 => ?_)
      ·have c4 := (nT id) c4
       refine .seq <| .rs fun k22 => .as rfl <| .z <| .ret ?_
       exact fin0 (.inr rfl) (.one (svB (show (false) = (Decl.ok d && Env.okIn d e) by simp only [c0, Env.okIn, c1, all_none (p := Iv.ok) (j := j) (by omega) c4]; simp)) .nil) (.dd .nil) rfl
      ·have c4 := (nF id) c4
       refine .skip <| .rs fun k24 => .mv rfl <| .bi rfl <| .as rfl <| .z ?_
       exact .here (j + 1) (.of (.cons rfl (.cons (svI (show (IntKind.wrap .i64 ((j : Int) + 1)) = (((j + 1) : Int)) by first | rfl | omega | exact wrap_le (by omega) (by omega) | (rw [wrap_le (by omega) (by omega)]; omega))) .nil)) .nil) ⟨(show (j + 1) ≤ (e.ints ++ e.arrs).length ∧ allTo (j + 1) (fun x => Iv.ok ((e.ints ++ e.arrs).getD x default)) = true by exact ⟨by omega, allTo_step hI.2 c4⟩), (show (e.ints ++ e.arrs).length - (j + 1) < (e.ints ++ e.arrs).length - j by omega)⟩
     ·have c3 := of_decide_eq_false c3
      refine .exit <| .seq <| .rs fun k25 => .as rfl <| .z <| .ret ?_
      exact fin0 (.inr rfl) (.one (svB (show (true) = (Decl.ok d && Env.okIn d e) by simp only [c0, Env.okIn, c1, all_done (p := Iv.ok) (j := j) (by omega) hI.2]; simp; omega)) .nil) (.dd .nil) rfl
theorem c_l6Of (l : List Iv) (n : Nat) (hb : n ≤ l.length ∧ l.length ≤ 2097152) : Trip Tryz.prog 153 [(false, 1), (false, 1)] ([.sl false 112 2 (List.map Iv.c (l))] ++ [.v (.int .i64 ((n : Int)))]) [(true, 3)] [.v (.bool ((Env.mk true (l.take n) (l.drop n)).live)), .sl true 112 2 (List.map Iv.c ((Env.mk true (l.take n) (l.drop n)).ints)), .sl true 112 2 (List.map Iv.c ((Env.mk true (l.take n) (l.drop n)).arrs))] [] := by
 refine Trip.of Tryz.func153 (by decide) (c := _) rfl rfl (Nat.le_of_ble_eq_true rfl) rfl (AftOk.nil _) <| .sl (t := 0) rfl fun hs1l => .seq <| .rs fun k2 => .g (fun _ τ => ⟨_, .alloc (.no rfl) rfl z81 rfl rfl rfl τ⟩) <| .z <| .seq ?_
 refine .regD (X := Nat × Nat × Nat) (by kernel_rfl) (fun ζ => .of [(4, .one (.ptr [4] (k2) 0))] [([4], (k2, ζ.1, .box [.d (.v (.bool (true))), .ref [5] (ζ.2.1), .ref [10] (ζ.2.2)])), ([5], (ζ.2.1, ζ.2.1, .row 112 2 (List.map Iv.c (l.take n)))), ([10], (ζ.2.2, ζ.2.2, .row 112 2 (List.map Iv.c (l.drop n))))]) [⟨[], some 5, [], [[5]]⟩, ⟨[0], some 6, [], []⟩, ⟨[1], some 7, [], []⟩, ⟨[6, 7], some 8, [], []⟩, ⟨[5, 8], some 9, [[5]], [[5]]⟩, ⟨[], some 10, [], [[10]]⟩, ⟨[0], some 11, [], []⟩, ⟨[1], some 12, [], []⟩, ⟨[11, 12], some 13, [], []⟩, ⟨[10, 13], some 14, [[10]], [[10]]⟩, ⟨[9, 14], some 15, [], []⟩, ⟨[4, 15], none, [[4]], [[4]]⟩] (by kernel_rfl) (fun k3 => ?_) ?_
 ·skip
  refine .buildSlice (.no rfl) rfl (els := []) t79 rfl z112 rfl rfl rfl rfl rfl rfl rfl rfl (by simp [i112]) .nil rfl rfl rfl <| .move (.no rfl) rfl rfl rfl rfl <| .move (.no rfl) rfl rfl rfl rfl <| .slice (.no rfl) rfl (lv := 0) (hv := n) (m := 0) t79 rfl t112 rfl rfl (.d _ _) rfl (by intro _ _ h; cases h) (by exact rfl) (by exact ⟨_, rfl⟩) (Nat.zero_le _) (le_map (by omega)) (cut_d0 _ _ _ _ _ _ _ _ _) rfl <| .append (.no rfl) rfl (l3 := List.map Iv.c (l.take n)) t79 rfl z112 rfl rfl rfl rfl rfl rfl rfl rfl (.ref _ _ _ _ rfl) (.ro _ _) rfl (by simp [i112]; omega) (List.nil_append _) rfl rfl <| .buildSlice (.no rfl) rfl (els := []) t79 rfl z112 rfl rfl rfl rfl rfl rfl rfl rfl (by simp [i112]) .nil rfl rfl rfl <| .move (.no rfl) rfl rfl rfl rfl <| .move (.no rfl) rfl rfl rfl rfl ?_
  refine .slice (.no rfl) rfl (lv := n) (hv := (List.map Iv.c (l)).length) (m := 0) t79 rfl t112 rfl rfl (.d _ _) rfl (by intro _ _ h; cases h) (by exact ⟨_, rfl⟩) (by exact rfl) (le_map (by omega)) (Nat.le_refl _) (cut_dn _ _ _ _ _ _ _ _ _) rfl <| .append (.no rfl) rfl (l3 := List.map Iv.c (l.drop n)) t79 rfl z112 rfl rfl rfl rfl rfl rfl rfl rfl (.ref _ _ _ _ rfl) (.ro _ _) rfl (by simp [i112]; omega) (List.nil_append _) rfl rfl <| .build (.no rfl) rfl z81 rfl p81 rfl rfl rfl rfl <| .store (.no rfl) rfl t81 rfl rfl rfl rfl rfl rfl rfl rfl rfl ?_
  exact .fin (k3 + 1 + 1 + 1 + 1 + 1 + 1 + 1 + 1 + 1 + 1 + 1, k3 + 1 + 1 + 1 + 1, k3 + 1 + 1 + 1 + 1 + 1 + 1 + 1 + 1 + 1) (.of (.r rfl) (.r rfl))
 rintro ⟨g4, g5, g6⟩
 refine .ret ?_
 have e7 : (true) = ((Env.mk true (l.take n) (l.drop n)).live) := by rfl
 have e8 : (l.take n) = ((Env.mk true (l.take n) (l.drop n)).ints) := by rfl
 have e9 : (l.drop n) = ((Env.mk true (l.take n) (l.drop n)).arrs) := by rfl
 have hc10 := eq1 (fun z1 => some (k2, g4, O.box [.d (.v (.bool (z1))), .ref [5] (g5), .ref [10] (g6)])) e7
 exact fin1 (.inr rfl) [] [([5], (g5, g5, .row 112 2 (List.map Iv.c ((Env.mk true (l.take n) (l.drop n)).ints)))), ([10], (g6, g6, .row 112 2 (List.map Iv.c ((Env.mk true (l.take n) (l.drop n)).arrs))))] (.cell (cells := [.d (.v (.bool ((Env.mk true (l.take n) (l.drop n)).live))), .ref [5] (g5), .ref [10] (g6)]) rfl hc10 t81 rfl rfl .nil) (.dd (.cons (.ref (.head _)) (.cons (.ref (.tail _ (.head _))) .nil))) rfl rfl (.cons (rowE (congrArg (List.map Iv.c) e8)) (.cons (rowE (congrArg (List.map Iv.c) e9)) .nil))
theorem c_l6Join (a : Env) (b : Env) (hj : a.live = true → b.live = true → a.ints.length = b.ints.length ∧ a.arrs.length = b.arrs.length) (hb : a.ints.length ≤ 1048576 ∧ a.arrs.length ≤ 1048576 ∧ b.ints.length ≤ 1048576 ∧ b.arrs.length ≤ 1048576) : Trip Tryz.prog 120 [(true, 3), (true, 3)] (Env.c81 a ++ Env.c81 b) [(true, 3)] [.v (.bool ((Env.join a b).live)), .sl true 112 2 (List.map Iv.c ((Env.join a b).ints)), .sl true 112 2 (List.map Iv.c ((Env.join a b).arrs))] [] := by
 refine Trip.of Tryz.func120 (by decide) (c := _) rfl rfl (Nat.le_of_ble_eq_true rfl) rfl (AftOk.nil _) <| .sla (t := 0) 1 rfl rfl fun hs1l => .sla (t := 0) 2 rfl rfl fun hs2l => .sla (t := 1) 1 rfl rfl fun hs3l => .sla (t := 1) 2 rfl rfl fun hs4l => .seq <| .rs fun k5 => .g (fun _ τ => ⟨_, .box (.no rfl) rfl rfl rfl rfl rfl τ⟩) <| .g (fun _ τ => ⟨_, .box (.no rfl) rfl rfl rfl rfl rfl τ⟩) ?_
 refine .g (fun _ τ => ⟨_, .alloc (.no rfl) rfl z81 rfl rfl rfl τ⟩) <| .z <| .seq <| .seq <| .rs fun k6 => .fp t81 t4 rfl <| .ld t4 rfl (.ptr _ _ _ _ _ rfl) rfl <| .un rfl <| .z ?_
 refine .cond (t := !a.live) rfl (fun c0 => ?_) (fun c0 => ?_)
 ·have c0 := (nT id) c0
  refine .seq <| .rs fun k7 => .lda t81 rfl (.ptr _ _ _ _ _ rfl) rfl <| .c0 (c_l6Copy b (by first | omega | (rw [zip2To_len]; simp at hI c2 ⊢; omega))) rfl (.dd (.dd (.dd .nil))) (.own [13, 0] (.own [13, 1] (.own [13, 2] .nil))) rfl <| .g (fun _ τ => ⟨_, .store (.no rfl) rfl t81 rfl rfl rfl rfl rfl rfl rfl rfl rfl τ⟩) <| .z <| .ret ?_
  have e8 : (b.live) = ((Env.join a b).live) := by simp [Env.join, c0]
  have e9 : (b.ints) = ((Env.join a b).ints) := by simp [Env.join, c0]
  have e10 : (b.arrs) = ((Env.join a b).arrs) := by simp [Env.join, c0]
  have hc11 := eq1 (fun z1 => some (k5 + 1 + 1, k7 + 1 + 1, O.box [.d (.v (.bool (z1))), .ref [13, 1] (k7 + 1), .ref [13, 2] (k7 + 1)])) e8
  exact fin1 (.inr rfl) [] [([13, 1], (k7 + 1, k7 + 1, .row 112 2 (List.map Iv.c ((Env.join a b).ints)))), ([13, 2], (k7 + 1, k7 + 1, .row 112 2 (List.map Iv.c ((Env.join a b).arrs))))] (.cell (cells := [.d (.v (.bool ((Env.join a b).live))), .ref [13, 1] (k7 + 1), .ref [13, 2] (k7 + 1)]) rfl hc11 t81 rfl rfl .nil) (.dd (.cons (.ref (.head _)) (.cons (.ref (.tail _ (.head _))) .nil))) rfl rfl (.cons (rowE (congrArg (List.map Iv.c) e9)) (.cons (rowE (congrArg (List.map Iv.c) e10)) .nil))
 ·have c0 := (nF id) c0
  refine .skip <| .seq <| .seq <| .rs fun k12 => .fp t81 t4 rfl <| .ld t4 rfl (.ptr _ _ _ _ _ rfl) rfl <| .un rfl <| .z ?_
  refine .cond (t := !b.live) rfl (fun c1 => ?_) (fun c1 => ?_)
  ·have c1 := (nT id) c1
   refine .seq <| .rs fun k13 => .lda t81 rfl (.ptr _ _ _ _ _ rfl) rfl <| .c0 (c_l6Copy a (by first | omega | (rw [zip2To_len]; simp at hI c2 ⊢; omega))) rfl (.dd (.dd (.dd .nil))) (.own [18, 0] (.own [18, 1] (.own [18, 2] .nil))) rfl <| .g (fun _ τ => ⟨_, .store (.no rfl) rfl t81 rfl rfl rfl rfl rfl rfl rfl rfl rfl τ⟩) <| .z <| .ret ?_
   have e14 : (a.live) = ((Env.join a b).live) := by simp [Env.join, c0, c1]
   have e15 : (a.ints) = ((Env.join a b).ints) := by simp [Env.join, c0, c1]
   have e16 : (a.arrs) = ((Env.join a b).arrs) := by simp [Env.join, c0, c1]
   have hc17 := eq1 (fun z1 => some (k5 + 1 + 1, k13 + 1 + 1, O.box [.d (.v (.bool (z1))), .ref [18, 1] (k13 + 1), .ref [18, 2] (k13 + 1)])) e14
   exact fin1 (.inr rfl) [] [([18, 1], (k13 + 1, k13 + 1, .row 112 2 (List.map Iv.c ((Env.join a b).ints)))), ([18, 2], (k13 + 1, k13 + 1, .row 112 2 (List.map Iv.c ((Env.join a b).arrs))))] (.cell (cells := [.d (.v (.bool ((Env.join a b).live))), .ref [18, 1] (k13 + 1), .ref [18, 2] (k13 + 1)]) rfl hc17 t81 rfl rfl .nil) (.dd (.cons (.ref (.head _)) (.cons (.ref (.tail _ (.head _))) .nil))) rfl rfl (.cons (rowE (congrArg (List.map Iv.c) e15)) (.cons (rowE (congrArg (List.map Iv.c) e16)) .nil))
  ·have c1 := (nF id) c1
   refine .skip <| .seq <| .rs fun k18 => .lda t81 rfl (.ptr _ _ _ _ _ rfl) rfl <| .c0 (c_l6List a (by first | omega | (rw [zip2To_len]; simp at hI c2 ⊢; omega))) rfl (.dd (.dd (.dd .nil))) (.frz [20, 0] (Frz.of_erase (erase_slo _ _ _ _ _ _ Iv.c_e)) .nil) rfl <| .as rfl <| .z <| .seq <| .rs fun k19 => ?_
   refine .lda t81 rfl (.ptr _ _ _ _ _ rfl) rfl <| .c0 (c_l6List b (by first | omega | (rw [zip2To_len]; simp at hI c2 ⊢; omega))) rfl (.dd (.dd (.dd .nil))) (.frz [22, 0] (Frz.of_erase (erase_slo _ _ _ _ _ _ Iv.c_e)) .nil) rfl <| .as rfl <| .z <| .seq <| .rs fun k20 => .g (fun _ τ => ⟨_, .buildSlice (.no rfl) rfl (els := []) t79 rfl z112 rfl rfl rfl rfl rfl rfl rfl rfl (by simp [i112]) .nil rfl rfl rfl τ⟩) <| .as rfl <| .z ?_
   refine .seq <| .seq <| .rs fun k21 => .as rfl <| .z <| .block ?_
   refine .loop (X := Nat × Nat × Nat) (fun ζ => .of [(2, .one (.ptr [2] (k5) 0)), (4, .one (.ptr [4] (k5 + 1 + 1) 0)), (5, .one (.d (.sl false 112 2 (List.map Iv.c (a.ints ++ a.arrs))))), (6, .one (.d (.sl false 112 2 (List.map Iv.c (b.ints ++ b.arrs))))), (7, .one (.ref [23] (ζ.2.1))), (8, .one (.d (.v (.int .i64 ((ζ.1 : Int))))))] [([2], (k5, k5, .box [.d (.v (.bool (a.live))), .d (.sl false 112 2 (List.map Iv.c (a.ints))), .d (.sl false 112 2 (List.map Iv.c (a.arrs)))])), ([4], (k5 + 1 + 1, k5 + 1 + 1, .box [.d (.v (.bool (false))), .d (.v (.slice none 0 0)), .d (.v (.slice none 0 0))])), ([23], (ζ.2.1, ζ.2.2, .row 112 2 (List.map Iv.c (zip2To Iv.join (a.ints ++ a.arrs) (b.ints ++ b.arrs) ζ.1))))]) (fun ζ => ζ.1 ≤ (a.ints ++ a.arrs).length) (fun ζ => (a.ints ++ a.arrs).length - ζ.1) ?_ ?_
   ·skip
    exact .here (0, k20, k20) (.of (.cons rfl (.cons rfl (.cons rfl (.cons rfl (.cons rfl (.cons (svI (show (0) = ((0 : Int)) by first | rfl | omega | exact wrap_le (by omega) (by omega) | (rw [wrap_le (by omega) (by omega)]; omega))) .nil)))))) (.cons rfl (.cons rfl (.cons (rowE (show [] = List.map Iv.c (zip2To Iv.join (a.ints ++ a.arrs) (b.ints ++ b.arrs) 0) by first | rfl | exact congrArg _ (zip2To_step _ _ _ _))) .nil)))) (show 0 ≤ (a.ints ++ a.arrs).length by omega)
   ·rintro ⟨j, q22, q23⟩ hI
    have hI : j ≤ (a.ints ++ a.arrs).length := hI
    have hn9 : (a.ints ++ a.arrs).length ≤ 3145728 := by simp; omega
    have hn8 : (a.ints ++ a.arrs).length = (b.ints ++ b.arrs).length := by have := hj c0 c1; simp; omega
    have hn7 := zip2To_len Iv.join (a.ints ++ a.arrs) (b.ints ++ b.arrs) j
    dsimp only
    refine .seq <| .seq <| .rs fun k24 => .mv rfl <| .mv rfl <| .g (fun _ τ => ⟨_, .len (.no rfl) rfl (z := ((a.ints ++ a.arrs).length : Int)) t79 rfl rfl rfl (.d _ _) (map_len _ _) rfl τ⟩) <| .bi rfl <| .z ?_
    refine .cond (t := decide ((j : Int) < ((a.ints ++ a.arrs).length : Int))) rfl (fun c2 => ?_) (fun c2 => ?_)
    ·have c2 := of_decide_eq_true c2
     refine .skip <| .seq <| .block ?_
     refine .regD (X := Nat) (by kernel_rfl) (fun ζ => .of [(2, .one (.ptr [2] (k5) 0)), (4, .one (.ptr [4] (k5 + 1 + 1) 0)), (5, .one (.d (.sl false 112 2 (List.map Iv.c (a.ints ++ a.arrs))))), (6, .one (.d (.sl false 112 2 (List.map Iv.c (b.ints ++ b.arrs))))), (7, .one (.ref [23] (ζ))), (8, .one (.d (.v (.int .i64 ((j : Int))))))] [([2], (k5, k5, .box [.d (.v (.bool (a.live))), .d (.sl false 112 2 (List.map Iv.c (a.ints))), .d (.sl false 112 2 (List.map Iv.c (a.arrs)))])), ([4], (k5 + 1 + 1, k5 + 1 + 1, .box [.d (.v (.bool (false))), .d (.v (.slice none 0 0)), .d (.v (.slice none 0 0))])), ([23], (ζ, ζ, .row 112 2 (List.map Iv.c (zip2To Iv.join (a.ints ++ a.arrs) (b.ints ++ b.arrs) j ++ [(Iv.join ((a.ints ++ a.arrs).getD (j) default) ((b.ints ++ b.arrs).getD (j) default))]))))]) [⟨[7], some 30, [], []⟩, ⟨[5], some 31, [], []⟩, ⟨[8], some 32, [], []⟩, ⟨[31, 32], some 33, [], []⟩, ⟨[33], some 34, [], []⟩, ⟨[6], some 35, [], []⟩, ⟨[8], some 36, [], []⟩, ⟨[35, 36], some 37, [], []⟩, ⟨[37], some 38, [], []⟩, ⟨[34, 38], some 39, [], []⟩, ⟨[39], some 40, [], [[40]]⟩, ⟨[30, 40], some 41, [[23], [40]], [[40], [23]]⟩, ⟨[41], some 7, [], []⟩] (by kernel_rfl) (fun k25 => ?_) ?_
     ·skip
      refine .move (.no rfl) rfl rfl rfl rfl <| .move (.no rfl) rfl rfl rfl rfl <| .move (.no rfl) rfl rfl rfl rfl <| .indexAddr (.no rfl) rfl (j) t79 rfl t112 rfl rfl rfl (.d _ _) rfl rfl rfl (map_get (by omega)) rfl rfl <| .load (.no rfl) rfl t112 rfl rfl (.d _) rfl rfl rfl rfl <| .move (.no rfl) rfl rfl rfl rfl <| .move (.no rfl) rfl rfl rfl rfl <| .indexAddr (.no rfl) rfl (j) t79 rfl t112 rfl rfl rfl (.d _ _) rfl rfl rfl (map_get (by omega)) rfl rfl <| .load (.no rfl) rfl t112 rfl rfl (.d _) rfl rfl rfl rfl ?_
      refine .call (.no rfl) rfl [] [] (c_l2Join ((a.ints ++ a.arrs).getD (j) default) ((b.ints ++ b.arrs).getD (j) default)) rfl rfl rfl rfl rfl (.dd (.dd (.dd (.dd .nil)))) rfl rfl (fun h => absurd rfl h) (.own [39, 0] (.own [39, 1] .nil)) (.nil) rfl rfl rfl (by simp) rfl rfl rfl <| .buildSlice (.no rfl) rfl (els := [[.v (.int .i64 ((Iv.join ((a.ints ++ a.arrs).getD (j) default) ((b.ints ++ b.arrs).getD (j) default)).lo)), .v (.int .i64 ((Iv.join ((a.ints ++ a.arrs).getD (j) default) ((b.ints ++ b.arrs).getD (j) default)).hi))]]) t79 rfl z112 rfl rfl rfl rfl rfl rfl rfl rfl (by simp [i112]) (.cons _ _ _ _ _ _ (.d _) (.cons _ _ _ _ _ _ (.d _) .nil)) rfl rfl rfl ?_
      refine .append (.no rfl) rfl (l3 := List.map Iv.c (zip2To Iv.join (a.ints ++ a.arrs) (b.ints ++ b.arrs) j ++ [(Iv.join ((a.ints ++ a.arrs).getD (j) default) ((b.ints ++ b.arrs).getD (j) default))])) t79 rfl z112 rfl rfl rfl rfl rfl rfl rfl rfl (.ref _ _ _ _ rfl) (.take _ _ _ _ _ rfl) rfl (by simp [i112]; omega) (map_snoc _ _ _) rfl rfl <| .assign (.no rfl) rfl rfl rfl rfl ?_
      exact .fin (k25 + 1 + 1 + 1 + 1 + 1 + 1 + 1 + 1 + 1 + 1 + 1) (.of (.r rfl) (.r rfl))
     intro g26
     refine .rs fun k27 => .mv rfl <| .bi rfl <| .as rfl <| .z ?_
     exact .here ((j + 1), g26, g26) (.of (.cons rfl (.cons rfl (.cons rfl (.cons rfl (.cons rfl (.cons (svI (show (IntKind.wrap .i64 ((j : Int) + 1)) = (((j + 1) : Int)) by first | rfl | omega | exact wrap_le (by omega) (by omega) | (rw [wrap_le (by omega) (by omega)]; omega))) .nil)))))) (.cons rfl (.cons rfl (.cons (rowE (show List.map Iv.c (zip2To Iv.join (a.ints ++ a.arrs) (b.ints ++ b.arrs) j ++ [(Iv.join ((a.ints ++ a.arrs).getD (j) default) ((b.ints ++ b.arrs).getD (j) default))]) = List.map Iv.c (zip2To Iv.join (a.ints ++ a.arrs) (b.ints ++ b.arrs) (j + 1)) by first | rfl | exact congrArg _ (zip2To_step _ _ _ _))) .nil)))) ⟨(show (j + 1) ≤ (a.ints ++ a.arrs).length by omega), (show (a.ints ++ a.arrs).length - (j + 1) < (a.ints ++ a.arrs).length - j by omega)⟩
    ·have c2 := of_decide_eq_false c2
     refine .exit <| .seq <| .rs fun k28 => .mv rfl <| .fp t81 t79 rfl <| .ld t79 rfl (.ptr _ _ _ _ _ rfl) rfl <| .g (fun _ τ => ⟨_, .len (.no rfl) rfl (z := (a.ints.length : Int)) t79 rfl rfl rfl (.d _ _) (map_len _ _) rfl τ⟩) <| .g (fun _ τ => ⟨_, .call (.no rfl) rfl [[23]] [([23], (q22, q23, .row 112 2 (List.map Iv.c (zip2To Iv.join (a.ints ++ a.arrs) (b.ints ++ b.arrs) j))))] (c_l6Of (zip2To Iv.join (a.ints ++ a.arrs) (b.ints ++ b.arrs) j) a.ints.length (by first | omega | (rw [zip2To_len]; simp at hI c2 ⊢; omega))) rfl rfl rfl rfl rfl (.cons (Reads.ref (Frz.of_erase (erase_slo _ _ _ _ _ _ Iv.c_e)) (.head _) (.head _)).gives (.dd .nil)) rfl rfl (fun _ => (ownCons (Owned.v _) (ownCons (Owned.map _ _ _ _ Iv.c_o) (ownCons (Owned.map _ _ _ _ Iv.c_o) ownNil)))) (.own [46, 0] (.own [46, 1] (.own [46, 2] .nil))) (.nil) rfl rfl rfl (AllH.get (.r rfl)) rfl rfl rfl τ⟩) ?_
     refine .g (fun _ τ => ⟨_, .store (.no rfl) rfl t81 rfl rfl rfl rfl rfl rfl rfl rfl rfl τ⟩) <| .z <| .ret ?_
     have e29 : ((Env.mk true ((zip2To Iv.join (a.ints ++ a.arrs) (b.ints ++ b.arrs) j).take a.ints.length) ((zip2To Iv.join (a.ints ++ a.arrs) (b.ints ++ b.arrs) j).drop a.ints.length)).live) = ((Env.join a b).live) := by (have hj9 := hj c0 c1; first | (simp [Env.join, c0, c1]; done) | skip; simp only [Env.join, c0, c1, if_true]; first | (rw [zip2To_all Iv.join hI (by omega)]; exact zip2_take _ hj9.1) | (rw [zip2To_all Iv.join hI (by omega)]; exact zip2_drop _ hj9.1))
     have e30 : ((Env.mk true ((zip2To Iv.join (a.ints ++ a.arrs) (b.ints ++ b.arrs) j).take a.ints.length) ((zip2To Iv.join (a.ints ++ a.arrs) (b.ints ++ b.arrs) j).drop a.ints.length)).ints) = ((Env.join a b).ints) := by (have hj9 := hj c0 c1; first | (simp [Env.join, c0, c1]; done) | skip; simp only [Env.join, c0, c1, if_true]; first | (rw [zip2To_all Iv.join hI (by omega)]; exact zip2_take _ hj9.1) | (rw [zip2To_all Iv.join hI (by omega)]; exact zip2_drop _ hj9.1))
     have e31 : ((Env.mk true ((zip2To Iv.join (a.ints ++ a.arrs) (b.ints ++ b.arrs) j).take a.ints.length) ((zip2To Iv.join (a.ints ++ a.arrs) (b.ints ++ b.arrs) j).drop a.ints.length)).arrs) = ((Env.join a b).arrs) := by (have hj9 := hj c0 c1; first | (simp [Env.join, c0, c1]; done) | skip; simp only [Env.join, c0, c1, if_true]; first | (rw [zip2To_all Iv.join hI (by omega)]; exact zip2_take _ hj9.1) | (rw [zip2To_all Iv.join hI (by omega)]; exact zip2_drop _ hj9.1))
     have hc32 := eq1 (fun z1 => some (k5 + 1 + 1, k28 + 1 + 1 + 1 + 1 + 1, O.box [.d (.v (.bool (z1))), .ref [46, 1] (k28 + 1 + 1 + 1 + 1), .ref [46, 2] (k28 + 1 + 1 + 1 + 1)])) e29
     exact fin1 (.inr rfl) [] [([46, 1], (k28 + 1 + 1 + 1 + 1, k28 + 1 + 1 + 1 + 1, .row 112 2 (List.map Iv.c ((Env.join a b).ints)))), ([46, 2], (k28 + 1 + 1 + 1 + 1, k28 + 1 + 1 + 1 + 1, .row 112 2 (List.map Iv.c ((Env.join a b).arrs))))] (.cell (cells := [.d (.v (.bool ((Env.join a b).live))), .ref [46, 1] (k28 + 1 + 1 + 1 + 1), .ref [46, 2] (k28 + 1 + 1 + 1 + 1)]) rfl hc32 t81 rfl rfl .nil) (.dd (.cons (.ref (.head _)) (.cons (.ref (.tail _ (.head _))) .nil))) rfl rfl (.cons (rowE (congrArg (List.map Iv.c) e30)) (.cons (rowE (congrArg (List.map Iv.c) e31)) .nil))
end Go.Proofs

namespace Go.Proofs
open Go Go.Proofs Go.Ev

def slc22 (x : List ByteArray) : List D := [.sl false 9 1 (List.map strc (x))]
theorem slc22_e (x : List ByteArray) : (slc22 x).map D.erase = slc22 x := by simp [slc22, erase_slo _ _ _ _ _ _ strc_e]
def slco22 (x : List ByteArray) : List D := [.sl true 9 1 (List.map strc (x))]
theorem slco22_e (x : List ByteArray) : (slco22 x).map D.erase = slc22 x := by simp [slco22, slc22, erase_slo _ _ _ _ _ _ strc_e]
theorem slco22_o (x : List ByteArray) : ∀ d ∈ slco22 x, Owned d := by simp [slco22, Owned.map _ _ _ _ strc_o]
def i3 : TI := ⟨.int .i64, 1, 8, [.int .i64 0]⟩
theorem t3 : TyOk Tryz.prog 3 i3 := ⟨Tryz.underlying3, by kernel_rfl⟩
theorem z3 : ZOk Tryz.prog 3 i3 := ⟨t3, rfl⟩
def i178 : TI := ⟨.sl 22, 1, 24, [.slice none 0 0]⟩
theorem t178 : TyOk Tryz.prog 178 i178 := ⟨Tryz.underlying178, by kernel_rfl⟩
theorem z178 : ZOk Tryz.prog 178 i178 := ⟨t178, rfl⟩
theorem c_Grow (n : Nat) (hn : n ≤ 4194304) : Trip Tryz.prog 156 [(false, 1), (false, 1)] ([.v (.slice none 0 0)] ++ [.v (.int .i64 ((n : Int)))]) [(false, 1)] [.sl true 9 1 ([])] [] := by
 refine Trip.of Tryz.func156 (by decide) (c := _) rfl rfl (Nat.le_of_ble_eq_true rfl) rfl (AftOk.nil _) <| .seq <| .rs fun k1 => .as rfl <| .z <| .seq <| .seq <| .rs fun k2 => .mv rfl ?_
 refine .bi rfl <| .z ?_
 refine .cond (t := decide ((n : Int) < 0)) rfl (fun c0 => ?_) (fun c0 => ?_)
 ·have c0 := of_decide_eq_true c0
  exfalso; omega
 ·have c0 := of_decide_eq_false c0
  refine .skip <| .seq <| .seq <| .rs fun k3 => .mv rfl <| .mv rfl <| .g (fun _ τ => ⟨_, .capNil (.no rfl) rfl t22 rfl rfl rfl rfl τ⟩) <| .mv rfl <| .g (fun _ τ => ⟨_, .len (.no rfl) rfl (z := 0) t22 rfl rfl rfl (sz := 1) .nil rfl rfl τ⟩) ?_
  refine .bi (v := .int .i64 (0)) rfl <| .bi rfl <| .as rfl <| .z <| .seq <| .rs fun k4 => .mv rfl <| .bi rfl <| .z ?_
  refine .cond (t := decide ((IntKind.wrap .i64 ((n : Int) - 0)) > 0)) rfl (fun c1 => ?_) (fun c1 => ?_)
  ·have c1 := of_decide_eq_true c1
   refine .rs fun k5 => .mv rfl <| .mv rfl <| .g (fun _ τ => ⟨_, .capNil (.no rfl) rfl t22 rfl rfl rfl rfl τ⟩) <| .g (fun _ τ => ⟨_, .sliceNil (.no rfl) rfl t22 rfl t9 rfl rfl (by exact rfl) (by exact ⟨_, rfl⟩) rfl τ⟩) <| .mv rfl <| .g (fun _ τ => ⟨_, .growNil (.no rfl) rfl (n0 := n) (els := List.map strc (List.replicate n .empty)) t22 rfl t3 rfl z9 rfl rfl rfl rfl rfl rfl (by exact (wrap_le (by omega) (by omega)).trans (by omega)) (by (rw [wrap_le (by omega) (by omega)] at c1; omega)) (by simp [i9]; omega) (by omega) (rep_map _ _ _ rfl) rfl τ⟩) <| .mv rfl <| .g (fun _ τ => ⟨_, .len (.no rfl) rfl (z := 0) t22 rfl rfl rfl (sz := 1) .nil rfl rfl τ⟩) ?_
   refine .g (fun _ τ => ⟨_, .slice (.no rfl) rfl (lv := 0) (hv := 0) (m := k5 + 1 + 1 + 1 + 1 + 1) t22 rfl t9 rfl rfl (.ref _ _ _ _ _ rfl) rfl (by intro _ _ h; cases h; exact ⟨_, .head _⟩) (by exact rfl) (by exact ⟨_, rfl⟩) (Nat.zero_le _) (Nat.zero_le _) rfl rfl τ⟩) <| .as rfl <| .z <| .seq <| .rs fun k6 => .mv rfl <| .as rfl <| .z <| .ret ?_
   exact fin1 (.inr rfl) [] [([22], (k5 + 1 + 1 + 1 + 1 + 1, k5 + 1 + 1 + 1 + 1 + 1, .row 9 1 (List.map strc (List.replicate n .empty))))] (.one rfl .nil) (.cons (.cut0 (.head _)) .nil) rfl rfl (.r rfl)
  ·have c1 := of_decide_eq_false c1
   refine .skip <| .seq <| .rs fun k7 => .mv rfl <| .as rfl <| .z <| .ret ?_
   exact fin0 (.inr rfl) (.one rfl .nil) (.cons (Gives.nil' (by first | rfl | simp_all)) .nil) rfl
theorem c_Concat (l : List (List ByteArray)) (hb : lens l ≤ 4194304 ∧ l.length ≤ 1048576) : Trip Tryz.prog 123 [(false, 1)] ([.sl false 22 1 (List.map slc22 (l))]) [(false, 1)] [.sl true 9 1 (List.map strc (l.flatten))] [] := by
 refine Trip.of Tryz.func123 (by decide) (c := _) rfl rfl (Nat.le_of_ble_eq_true rfl) rfl (AftOk.nil _) <| .sl (t := 0) rfl fun hs1l => .seq <| .rs fun k2 => .as rfl <| .z <| .seq <| .rs fun k3 => .as rfl ?_
 refine .z <| .seq <| .seq <| .rs fun k4 => .mv rfl <| .g (fun _ τ => ⟨_, .len (.no rfl) rfl (z := (l.length : Int)) t178 rfl rfl rfl (.d _ _) (map_len _ _) rfl τ⟩) <| .mv rfl <| .z <| .block ?_
 refine .loop (X := Nat) (fun ζ => .of [(0, .one (.d (.sl false 22 1 (List.map slc22 (l))))), (3, .one (.d (.v (.int .i64 ((lens (l.take ζ) : Int)))))), (9, .one (.d (.sl false 22 1 (List.map slc22 (l))))), (10, .one (.d (.v (.int .i64 ((l.length : Int)))))), (11, .one (.d (.v (.int .i64 ((ζ : Int))))))] []) (fun ζ => ζ ≤ l.length) (fun ζ => l.length - ζ) ?_ ?_
 ·skip
  exact .here 0 (.of (.cons rfl (.cons (svI (show (0) = ((lens (l.take 0) : Int)) by first | rfl | omega | exact wrap_le (by omega) (by omega) | (rw [wrap_le (by omega) (by omega)]; omega))) (.cons rfl (.cons rfl (.cons (svI (show (0) = ((0 : Int)) by first | rfl | omega | exact wrap_le (by omega) (by omega) | (rw [wrap_le (by omega) (by omega)]; omega))) .nil))))) .nil) (show 0 ≤ l.length by omega)
 ·rintro j hI
  have hI : j ≤ l.length := hI
  have hs9 := lens_take l j
  have hs8 := lens_le l (j + 1)
  have hs7 := lens_le l j
  refine .seq <| .rs fun k5 => .bi rfl <| .z <| .seq ?_
  refine .cond (t := decide ((j : Int) < (l.length : Int))) rfl (fun c0 => ?_) (fun c0 => ?_)
  ·have c0 := of_decide_eq_true c0
   refine .skip <| .seq <| .block <| .seq <| .rs fun k6 => .g (fun _ τ => ⟨_, .indexAddr (.no rfl) rfl (j) t178 rfl t22 rfl rfl rfl (.d _ _) rfl rfl rfl (map_get (by omega)) rfl rfl τ⟩) <| .ld t22 rfl (.d _) rfl <| .as rfl <| .z ?_
   refine .seq <| .rs fun k7 => .mv rfl <| .mv rfl <| .g (fun _ τ => ⟨_, .len (.no rfl) rfl (z := ((l.getD j default).length : Int)) t22 rfl rfl rfl (.d _ _) (map_len _ _) rfl τ⟩) <| .bi rfl <| .as rfl <| .z <| .seq ?_
   refine .rs fun k8 => .mv rfl <| .bi rfl <| .z ?_
   refine .cond (t := decide ((IntKind.wrap .i64 ((lens (l.take j) : Int) + ((l.getD j default).length : Int))) < 0)) rfl (fun c1 => ?_) (fun c1 => ?_)
   ·have c1 := of_decide_eq_true c1
    exfalso; (rw [wrap_le (by omega) (by omega)] at c1; omega)
   ·have c1 := of_decide_eq_false c1
    refine .skip <| .rs fun k9 => .bi rfl <| .mv rfl <| .z ?_
    exact .here (j + 1) (.of (.cons rfl (.cons (svI (show (IntKind.wrap .i64 ((lens (l.take j) : Int) + ((l.getD j default).length : Int))) = ((lens (l.take (j + 1)) : Int)) by first | rfl | omega | exact wrap_le (by omega) (by omega) | (rw [wrap_le (by omega) (by omega)]; omega))) (.cons rfl (.cons rfl (.cons (svI (show (IntKind.wrap .i64 ((j : Int) + 1)) = (((j + 1) : Int)) by first | rfl | omega | exact wrap_le (by omega) (by omega) | (rw [wrap_le (by omega) (by omega)]; omega))) .nil))))) .nil) ⟨(show (j + 1) ≤ l.length by omega), (show l.length - (j + 1) < l.length - j by omega)⟩
  ·have c0 := of_decide_eq_false c0
   refine .exit <| .seq <| .rs fun k10 => .mv rfl <| .c0 (c_Grow (lens (l.take j)) (by omega)) rfl (.dd (.dd .nil)) (.own [24, 0] .nil) rfl <| .as rfl <| .z <| .seq <| .seq ?_
   refine .rs fun k11 => .mv rfl <| .g (fun _ τ => ⟨_, .len (.no rfl) rfl (z := (l.length : Int)) t178 rfl rfl rfl (.d _ _) (map_len _ _) rfl τ⟩) <| .mv rfl <| .z <| .block ?_
   refine .loop (X := Nat × Nat × Nat) (fun ζ => .of [(6, .one (.ref [24, 0] (ζ.2.1))), (25, .one (.d (.sl false 22 1 (List.map slc22 (l))))), (26, .one (.d (.v (.int .i64 ((l.length : Int)))))), (27, .one (.d (.v (.int .i64 ((ζ.1 : Int))))))] [([24, 0], (ζ.2.1, ζ.2.2, .row 9 1 (List.map strc ((l.take ζ.1).flatten))))]) (fun ζ => ζ.1 ≤ l.length) (fun ζ => l.length - ζ.1) ?_ ?_
   ·skip
    exact .here (0, (k10 + 1), (k10 + 1)) (.of (.cons (by show SV.one (.ref [24, 0] (k10 + 1)) = SV.one (.ref [24, 0] ((k10 + 1))); first | rfl | simp_all) (.cons rfl (.cons rfl (.cons (svI (show (0) = ((0 : Int)) by first | rfl | omega | exact wrap_le (by omega) (by omega) | (rw [wrap_le (by omega) (by omega)]; omega))) .nil)))) (.cons (rowE (show [] = List.map strc ((l.take 0).flatten) by first | (simp; done) | exact congrArg _ (take_flatten _ _))) .nil)) (show 0 ≤ l.length by omega)
   ·rintro ⟨i, q12, q13⟩ hI
    have hI : i ≤ l.length := hI
    have hs9 := lens_take l i
    have hs8 := lens_le l (i + 1)
    have hs7 := lens_le l i
    dsimp only
    refine .seq <| .rs fun k14 => .bi rfl <| .z <| .seq ?_
    refine .cond (t := decide ((i : Int) < (l.length : Int))) rfl (fun c2 => ?_) (fun c2 => ?_)
    ·have c2 := of_decide_eq_true c2
     refine .skip <| .seq <| .block <| .seq <| .rs fun k15 => .g (fun _ τ => ⟨_, .indexAddr (.no rfl) rfl (i) t178 rfl t22 rfl rfl rfl (.d _ _) rfl rfl rfl (map_get (by omega)) rfl rfl τ⟩) <| .ld t22 rfl (.d _) rfl <| .as rfl <| .z ?_
     refine .rs fun k16 => .mv rfl <| .mv rfl <| .g (fun _ τ => ⟨_, .append (.no rfl) rfl (l3 := List.map strc ((l.take i).flatten ++ l.getD i default)) t22 rfl z9 rfl rfl rfl rfl rfl rfl rfl rfl (.ref _ _ _ _ rfl) (.ro _ _) rfl (by simp only [List.length_map, flatten_lens, i9]; omega) (map_app _ _ _) rfl rfl τ⟩) <| .as rfl <| .z <| .rs fun k17 => .bi rfl <| .mv rfl ?_
     refine .z ?_
     exact .here ((i + 1), (k16 + 1 + 1), (k16 + 1 + 1)) (.of (.cons (by show SV.one (.ref [24, 0] (k16 + 1 + 1)) = SV.one (.ref [24, 0] ((k16 + 1 + 1))); first | rfl | simp_all) (.cons rfl (.cons rfl (.cons (svI (show (IntKind.wrap .i64 ((i : Int) + 1)) = (((i + 1) : Int)) by first | rfl | omega | exact wrap_le (by omega) (by omega) | (rw [wrap_le (by omega) (by omega)]; omega))) .nil)))) (.cons (rowE (show List.map strc ((l.take i).flatten ++ l.getD i default) = List.map strc ((l.take (i + 1)).flatten) by first | (simp; done) | exact congrArg _ (take_flatten _ _))) .nil)) ⟨(show (i + 1) ≤ l.length by omega), (show l.length - (i + 1) < l.length - i by omega)⟩
    ·have c2 := of_decide_eq_false c2
     refine .exit <| .seq <| .rs fun k18 => .mv rfl <| .as rfl <| .z <| .ret ?_
     have e19 : ((l.take i).flatten) = (l.flatten) := by (rw [List.take_of_length_le (by omega)])
     exact fin1 (.inr rfl) [] [([24, 0], (q12, q13, .row 9 1 (List.map strc (l.flatten))))] (.one rfl .nil) (.cons (.ref (.head _)) .nil) rfl rfl (.cons (rowE (congrArg (List.map strc) e19)) .nil)
theorem c_names (d : Decl) (hb : d.vars.length ≤ 1048576 ∧ d.flags.length ≤ 1048576 ∧ d.arrays.length ≤ 1048576) : Trip Tryz.prog 89 [(true, 3)] (Decl.c33 d) [(false, 1)] [.sl true 9 1 (List.map strc (Decl.names d))] [] := by
 refine Trip.of Tryz.func89 (by decide) (c := _) rfl rfl (Nat.le_of_ble_eq_true rfl) rfl (AftOk.nil _) <| .sla (t := 0) 0 rfl rfl fun hs1l => .sla (t := 0) 1 rfl rfl fun hs2l => .sla (t := 0) 2 rfl rfl fun hs3l => .seq <| .rs fun k4 => .g (fun _ τ => ⟨_, .box (.no rfl) rfl rfl rfl rfl rfl τ⟩) <| .as rfl <| .z ?_
 refine .seq <| .rs fun k5 => .fp t33 t22 rfl <| .ld t22 rfl (.ptr _ _ _ _ _ rfl) rfl <| .fp t33 t22 rfl <| .ld t22 rfl (.ptr _ _ _ _ _ rfl) rfl <| .g (fun _ τ => ⟨_, .buildSlice (.no rfl) rfl (els := [[.sl false 9 1 (List.map strc (d.vars))], [.sl false 9 1 (List.map strc (d.flags))]]) t178 rfl z22 rfl rfl rfl rfl rfl rfl rfl rfl (by simp [i22]) (.cons _ _ _ _ _ _ (.d _) (.cons _ _ _ _ _ _ (.d _) .nil)) rfl rfl rfl τ⟩) ?_
 refine .g (fun _ τ => ⟨_, .call (.no rfl) rfl [[10]] [([10], (k5 + 1 + 1 + 1 + 1, k5 + 1 + 1 + 1 + 1, .row 22 1 ([[.sl false 9 1 (List.map strc (d.vars))], [.sl false 9 1 (List.map strc (d.flags))]])))] (c_Concat [d.vars, d.flags] (by (simp [lens]; omega))) rfl rfl rfl rfl rfl (.cons (Reads.ref (Frz.of_erase (erase_slo true 22 1 slc22 slc22 ([d.vars, d.flags]) slc22_e)) (.head _) (.head _)).gives .nil) rfl rfl (fun _ => (ownCons (Owned.map _ _ _ _ strc_o) ownNil)) (.own [11, 0] .nil) (.nil) rfl rfl rfl (AllH.get (.r rfl)) rfl rfl rfl τ⟩) <| .as rfl <| .z <| .seq <| .seq <| .rs fun k6 => .fp t33 t31 rfl <| .ld t31 rfl (.ptr _ _ _ _ _ rfl) rfl <| .g (fun _ τ => ⟨_, .len (.no rfl) rfl (z := (d.arrays.length : Int)) t31 rfl rfl rfl (.d _ _) (map_len _ _) rfl τ⟩) ?_
 refine .mv rfl <| .z <| .block ?_
 refine .loop (X := Nat × Nat × Nat) (fun ζ => .of [(3, .one (.ref [11, 0] (ζ.2.1))), (13, .one (.d (.sl false 89 2 (List.map Arr.c (d.arrays))))), (14, .one (.d (.v (.int .i64 ((d.arrays.length : Int)))))), (15, .one (.d (.v (.int .i64 ((ζ.1 : Int))))))] [([11, 0], (ζ.2.1, ζ.2.2, .row 9 1 (List.map strc (d.vars ++ d.flags ++ (d.arrays.take ζ.1).map Arr.name))))]) (fun ζ => ζ.1 ≤ d.arrays.length) (fun ζ => d.arrays.length - ζ.1) ?_ ?_
 ·skip
  exact .here (0, (k5 + 1 + 1 + 1 + 1 + 1), (k5 + 1 + 1 + 1 + 1 + 1)) (.of (.cons (by show SV.one (.ref [11, 0] (k5 + 1 + 1 + 1 + 1 + 1)) = SV.one (.ref [11, 0] ((k5 + 1 + 1 + 1 + 1 + 1))); first | rfl | simp_all) (.cons rfl (.cons rfl (.cons (svI (show (0) = ((0 : Int)) by first | rfl | omega | exact wrap_le (by omega) (by omega) | (rw [wrap_le (by omega) (by omega)]; omega))) .nil)))) (.cons (rowE (show List.map strc ([d.vars, d.flags].flatten) = List.map strc (d.vars ++ d.flags ++ (d.arrays.take 0).map Arr.name) by first | (simp; done) | (rw [List.append_assoc (d.vars ++ d.flags), take_step (f := Arr.name) (by omega)]))) .nil)) (show 0 ≤ d.arrays.length by omega)
 ·rintro ⟨j, q7, q8⟩ hI
  have hI : j ≤ d.arrays.length := hI
  dsimp only
  refine .seq <| .rs fun k9 => .bi rfl <| .z <| .seq ?_
  refine .cond (t := decide ((j : Int) < (d.arrays.length : Int))) rfl (fun c0 => ?_) (fun c0 => ?_)
  ·have c0 := of_decide_eq_true c0
   refine .skip <| .seq <| .block <| .seq <| .rs fun k10 => .g (fun _ τ => ⟨_, .indexAddr (.no rfl) rfl (j) t31 rfl t89 rfl rfl rfl (.d _ _) rfl rfl rfl (map_get (by omega)) rfl rfl τ⟩) <| .lda t89 rfl (.d _) rfl <| .g (fun _ τ => ⟨_, .alloc (.no rfl) rfl z89 rfl rfl rfl τ⟩) <| .g (fun _ τ => ⟨_, .store (.no rfl) rfl t89 rfl rfl rfl rfl rfl rfl rfl rfl rfl τ⟩) ?_
   refine .z <| .rs fun k11 => .mv rfl <| .fp t89 t9 rfl <| .ld t9 rfl (.ptr _ _ _ _ _ rfl) rfl <| .g (fun _ τ => ⟨_, .buildSlice (.no rfl) rfl (els := [[.v (.string ((d.arrays.getD j default).name))]]) t22 rfl z9 rfl rfl rfl rfl rfl rfl rfl rfl (by simp [i9]) (.cons _ _ _ _ _ _ (.d _) .nil) rfl rfl rfl τ⟩) <| .g (fun _ τ => ⟨_, .append (.no rfl) rfl (l3 := List.map strc (d.vars ++ d.flags ++ (d.arrays.take j).map Arr.name ++ [(d.arrays.getD j default).name])) t22 rfl z9 rfl rfl rfl rfl rfl rfl rfl rfl (.ref _ _ _ _ rfl) (.take _ _ _ _ _ rfl) rfl (by simp [i9]; omega) (map_snoc _ _ _) rfl rfl τ⟩) <| .as rfl <| .z ?_
   refine .rs fun k12 => .bi rfl <| .mv rfl <| .z ?_
   exact .here ((j + 1), (k11 + 1 + 1 + 1 + 1), (k11 + 1 + 1 + 1 + 1)) (.of (.cons (by show SV.one (.ref [11, 0] (k11 + 1 + 1 + 1 + 1)) = SV.one (.ref [11, 0] ((k11 + 1 + 1 + 1 + 1))); first | rfl | simp_all) (.cons rfl (.cons rfl (.cons (svI (show (IntKind.wrap .i64 ((j : Int) + 1)) = (((j + 1) : Int)) by first | rfl | omega | exact wrap_le (by omega) (by omega) | (rw [wrap_le (by omega) (by omega)]; omega))) .nil)))) (.cons (rowE (show List.map strc (d.vars ++ d.flags ++ (d.arrays.take j).map Arr.name ++ [(d.arrays.getD j default).name]) = List.map strc (d.vars ++ d.flags ++ (d.arrays.take (j + 1)).map Arr.name) by first | (simp; done) | (rw [List.append_assoc (d.vars ++ d.flags), take_step (f := Arr.name) (by omega)]))) .nil)) ⟨(show (j + 1) ≤ d.arrays.length by omega), (show d.arrays.length - (j + 1) < d.arrays.length - j by omega)⟩
  ·have c0 := of_decide_eq_false c0
   refine .exit <| .seq <| .rs fun k13 => .mv rfl <| .as rfl <| .z <| .ret ?_
   have e14 : (d.vars ++ d.flags ++ (d.arrays.take j).map Arr.name) = (Decl.names d) := by (simp only [Decl.names]; rw [List.take_of_length_le (by omega)])
   exact fin1 (.inr rfl) [] [([11, 0], (q7, q8, .row 9 1 (List.map strc (Decl.names d))))] (.one rfl .nil) (.cons (.ref (.head _)) .nil) rfl rfl (.cons (rowE (congrArg (List.map strc) e14)) .nil)
end Go.Proofs

namespace Go.Proofs
open Go Go.Proofs Go.Ev

def i128 : TI := ⟨.fn, 1, 8, [.nilFunc]⟩
theorem t128 : TyOk Tryz.prog 128 i128 := ⟨⟨_, _, _, Tryz.underlying128⟩, by kernel_rfl⟩
theorem z128 : ZOk Tryz.prog 128 i128 := ⟨t128, rfl⟩
def i146 : TI := ⟨.fn, 1, 8, [.nilFunc]⟩
theorem t146 : TyOk Tryz.prog 146 i146 := ⟨⟨_, _, _, Tryz.underlying146⟩, by kernel_rfl⟩
theorem z146 : ZOk Tryz.prog 146 i146 := ⟨t146, rfl⟩
theorem c_IvOk (a : Iv) : Trip Tryz.prog 118 [(true, 2)] (Iv.c a) [(false, 1)] [.v (.bool (Iv.ok a))] [] := by
 refine Trip.of Tryz.func118 (by decide) (c := _) rfl rfl (Nat.le_of_ble_eq_true rfl) rfl (AftOk.nil _) <| .seq <| .rs fun k1 => .g (fun _ τ => ⟨_, .box (.no rfl) rfl rfl rfl rfl rfl τ⟩) <| .as rfl <| .z <| .seq <| .rs fun k2 => .fp t112 t2 rfl ?_
 refine .ld t2 rfl (.ptr _ _ _ _ _ rfl) rfl <| .fp t112 t2 rfl <| .ld t2 rfl (.ptr _ _ _ _ _ rfl) rfl <| .bi rfl <| .as rfl <| .z <| .ret ?_
 exact fin0 (.inr rfl) (.one (svB (show (decide (a.lo ≤ a.hi)) = (Iv.ok a) by rfl)) .nil) (.dd .nil) rfl
theorem c_IndexFuncA (l : List Arr) (F_p : FuncId) (first_p : List (Bool × List D)) (caps_p : List D) (p : Arr → Bool) (h_p : ∀ (x0 : Arr), FnTrip Tryz.prog F_p first_p caps_p [(true, 2)] (Arr.c x0) [(false, 1)] [.v (.bool (p x0))]) : Trip Tryz.prog 158 [(false, 1), (false, 1)] ([.sl false 89 2 (List.map Arr.c (l))] ++ [.fn F_p first_p caps_p]) [(false, 1)] [.v (.int .i64 (idx p l))] [] := by
 refine Trip.of Tryz.func158 (by decide) (c := _) rfl rfl (Nat.le_of_ble_eq_true rfl) rfl (AftOk.nil _) <| .sl (t := 0) rfl fun hs1l => .seq <| .rs fun k2 => .as rfl <| .z <| .seq <| .seq <| .rs fun k3 => ?_
 refine .mv rfl <| .g (fun _ τ => ⟨_, .len (.no rfl) rfl (z := (l.length : Int)) t31 rfl rfl rfl (.d _ _) (map_len _ _) rfl τ⟩) <| .mv rfl <| .z <| .block ?_
 refine .loop (X := Nat) (fun ζ => .of [(0, .one (.d (.sl false 89 2 (List.map Arr.c (l))))), (1, .one (.d (.fn F_p first_p caps_p))), (7, .one (.d (.v (.int .i64 ((l.length : Int)))))), (8, .one (.d (.v (.int .i64 ((ζ : Int))))))] []) (fun ζ => ζ ≤ l.length ∧ allTo ζ (fun i => !p (l.getD i default)) = true) (fun ζ => l.length - ζ) ?_ ?_
 ·skip
  exact .here 0 (.of (.cons rfl (.cons rfl (.cons rfl (.cons (svI (show (0) = ((0 : Int)) by first | rfl | omega | exact wrap_le (by omega) (by omega) | (rw [wrap_le (by omega) (by omega)]; omega))) .nil)))) .nil) (show 0 ≤ l.length ∧ allTo 0 (fun i => !p (l.getD i default)) = true by exact ⟨by omega, rfl⟩)
 ·rintro j hI
  have hI : j ≤ l.length ∧ allTo j (fun i => !p (l.getD i default)) = true := hI
  refine .seq <| .rs fun k4 => .bi rfl <| .z <| .seq ?_
  refine .cond (t := decide ((j : Int) < (l.length : Int))) rfl (fun c0 => ?_) (fun c0 => ?_)
  ·have c0 := of_decide_eq_true c0
   refine .skip <| .seq <| .block <| .seq <| .rs fun k5 => .mv rfl <| .as rfl <| .z <| .seq ?_
   refine .rs fun k6 => .mv rfl <| .mv rfl <| .mv rfl <| .g (fun _ τ => ⟨_, .indexAddr (.no rfl) rfl (j) t31 rfl t89 rfl rfl rfl (.d _ _) rfl rfl rfl (map_get (by omega)) rfl rfl τ⟩) <| .lda t89 rfl (.d _) rfl <| .g (fun _ τ => ⟨_, .callF (.no rfl) rfl (ds := [.v (.string ((l.getD j default).name)), .v (.int .i64 ((l.getD j default).size))]) (h_p (l.getD j default)) rfl rfl rfl rfl (.own [16, 0] .nil) rfl rfl rfl rfl rfl rfl τ⟩) <| .z ?_
   refine .cond (t := p (l.getD j default)) rfl (fun c1 => ?_) (fun c1 => ?_)
   ·have c1 := c1
    refine .seq <| .rs fun k7 => .mv rfl <| .as rfl <| .z <| .ret ?_
    exact fin0 (.inr rfl) (.one (svI (show ((j : Int)) = (idx p l) by exact (idx_found (j := j) (by omega) hI.2 (by simpa using c1)).symm)) .nil) (.dd .nil) rfl
   ·have c1 := c1
    refine .skip <| .rs fun k9 => .bi rfl <| .mv rfl <| .z ?_
    exact .here (j + 1) (.of (.cons rfl (.cons rfl (.cons rfl (.cons (svI (show (IntKind.wrap .i64 ((j : Int) + 1)) = (((j + 1) : Int)) by first | rfl | omega | exact wrap_le (by omega) (by omega) | (rw [wrap_le (by omega) (by omega)]; omega))) .nil)))) .nil) ⟨(show (j + 1) ≤ l.length ∧ allTo (j + 1) (fun i => !p (l.getD i default)) = true by exact ⟨by omega, allTo_step hI.2 (by simpa using c1)⟩), (show l.length - (j + 1) < l.length - j by omega)⟩
  ·have c0 := of_decide_eq_false c0
   refine .exit <| .seq <| .rs fun k10 => .as rfl <| .z <| .ret ?_
   exact fin0 (.inr rfl) (.one (svI (show (-1) = (idx p l) by exact (idx_none (by omega) hI.2).symm)) .nil) (.dd .nil) rfl
theorem c_ContainsFuncA (l : List Arr) (F_p : FuncId) (first_p : List (Bool × List D)) (caps_p : List D) (p : Arr → Bool) (h_p : ∀ (x0 : Arr), FnTrip Tryz.prog F_p first_p caps_p [(true, 2)] (Arr.c x0) [(false, 1)] [.v (.bool (p x0))]) : Trip Tryz.prog 127 [(false, 1), (false, 1)] ([.sl false 89 2 (List.map Arr.c (l))] ++ [.fn F_p first_p caps_p]) [(false, 1)] [.v (.bool (l.any p))] [] := by
 refine Trip.of Tryz.func127 (by decide) (c := _) rfl rfl (Nat.le_of_ble_eq_true rfl) rfl (AftOk.nil _) <| .sl (t := 0) rfl fun hs1l => .seq <| .rs fun k2 => .as rfl <| .z <| .seq <| .rs fun k3 => .mv rfl ?_
 refine .mv rfl <| .c0 (c_IndexFuncA l F_p first_p caps_p p h_p) rfl (.dd (.dd .nil)) (.own [7, 0] .nil) rfl <| .bi rfl <| .as rfl <| .z <| .ret ?_
 exact fin0 (.inr rfl) (.one (svB (show (decide ((idx p l) ≥ 0)) = (l.any p) by exact idx_any _ _)) .nil) (.dd .nil) rfl
theorem c_areAll1A (x : Arr) (F_p : FuncId) (first_p : List (Bool × List D)) (caps_p : List D) (p : Arr → Bool) (h_p : ∀ (x0 : Arr), FnTrip Tryz.prog F_p first_p caps_p [(true, 2)] (Arr.c x0) [(false, 1)] [.v (.bool (p x0))]) : Trip Tryz.prog 128 [(true, 2), (false, 1)] (Arr.c x ++ [.pt false [.fn F_p first_p caps_p]]) [(false, 1)] [.v (.bool (!p x))] [] := by
 refine Trip.of Tryz.func128 (by decide) (c := _) rfl rfl (Nat.le_of_ble_eq_true rfl) rfl (AftOk.nil _) <| .seq <| .rs fun k1 => .g (fun _ τ => ⟨_, .box (.no rfl) rfl rfl rfl rfl rfl τ⟩) <| .as rfl <| .z <| .seq <| .rs fun k2 => .ld t128 rfl (.d _) rfl ?_
 refine .lda t89 rfl (.ptr _ _ _ _ _ rfl) rfl <| .g (fun _ τ => ⟨_, .callF (.no rfl) rfl (ds := [.v (.string (x.name)), .v (.int .i64 (x.size))]) (h_p x) rfl rfl rfl rfl (.own [6, 0] .nil) rfl rfl rfl rfl rfl rfl τ⟩) <| .un rfl <| .as rfl <| .z <| .ret ?_
 exact fin0 (.inr rfl) (.one (svB (show (!(p x)) = (!p x) by rfl)) .nil) (.dd .nil) rfl
theorem c_areAllA (l : List Arr) (F_p : FuncId) (first_p : List (Bool × List D)) (caps_p : List D) (p : Arr → Bool) (h_p : ∀ (x0 : Arr), FnTrip Tryz.prog F_p first_p caps_p [(true, 2)] (Arr.c x0) [(false, 1)] [.v (.bool (p x0))]) : Trip Tryz.prog 94 [(false, 1), (false, 1)] ([.sl false 89 2 (List.map Arr.c (l))] ++ [.fn F_p first_p caps_p]) [(false, 1)] [.v (.bool (l.all p))] [] := by
 refine Trip.of Tryz.func94 (by decide) (c := _) rfl rfl (Nat.le_of_ble_eq_true rfl) rfl (AftOk.nil _) <| .sl (t := 0) rfl fun hs1l => .seq <| .rs fun k2 => .g (fun _ τ => ⟨_, .box (.no rfl) rfl rfl rfl rfl rfl τ⟩) <| .as rfl <| .z <| .seq <| .rs fun k3 => ?_
 refine .mv rfl <| .g (fun _ τ => ⟨_, .makeFunc (.no rfl) rfl rfl rfl rfl rfl τ⟩) <| .g (fun _ τ => ⟨_, .call (.no rfl) rfl [[3]] [([3], (k2, k2, .box [.d (.fn F_p first_p caps_p)]))] (c_ContainsFuncA l 128 [] [.pt false [.fn F_p first_p caps_p]] (fun x0 => !p x0) (fun x0 => c_areAll1A x0 F_p first_p caps_p p h_p)) rfl rfl rfl rfl rfl (.dd (.cons (Reads.clo0 (.cons (Reads.ptr0 (.head _) (.head _) (.cons (Reads.d _) .nil)) .nil)).gives .nil)) rfl rfl (fun _ => (ownCons (Owned.v _) ownNil)) (.own [7, 0] .nil) (.nil) rfl rfl rfl (AllH.get (.r rfl)) rfl rfl rfl τ⟩) <| .un rfl <| .as rfl <| .z <| .ret ?_
 exact fin0 (.inr rfl) (.one (svB (show (!(l.any (fun x0 => !p x0))) = (l.all p) by exact not_any _ _)) .nil) (.dd .nil) rfl
theorem c_IndexFuncI (l : List Iv) (F_p : FuncId) (first_p : List (Bool × List D)) (caps_p : List D) (p : Iv → Bool) (h_p : ∀ (x0 : Iv), FnTrip Tryz.prog F_p first_p caps_p [(true, 2)] (Iv.c x0) [(false, 1)] [.v (.bool (p x0))]) : Trip Tryz.prog 178 [(false, 1), (false, 1)] ([.sl false 112 2 (List.map Iv.c (l))] ++ [.fn F_p first_p caps_p]) [(false, 1)] [.v (.int .i64 (idx p l))] [] := by
 refine Trip.of Tryz.func178 (by decide) (c := _) rfl rfl (Nat.le_of_ble_eq_true rfl) rfl (AftOk.nil _) <| .sl (t := 0) rfl fun hs1l => .seq <| .rs fun k2 => .as rfl <| .z <| .seq <| .seq <| .rs fun k3 => ?_
 refine .mv rfl <| .g (fun _ τ => ⟨_, .len (.no rfl) rfl (z := (l.length : Int)) t79 rfl rfl rfl (.d _ _) (map_len _ _) rfl τ⟩) <| .mv rfl <| .z <| .block ?_
 refine .loop (X := Nat) (fun ζ => .of [(0, .one (.d (.sl false 112 2 (List.map Iv.c (l))))), (1, .one (.d (.fn F_p first_p caps_p))), (7, .one (.d (.v (.int .i64 ((l.length : Int)))))), (8, .one (.d (.v (.int .i64 ((ζ : Int))))))] []) (fun ζ => ζ ≤ l.length ∧ allTo ζ (fun i => !p (l.getD i default)) = true) (fun ζ => l.length - ζ) ?_ ?_
 ·skip
  exact .here 0 (.of (.cons rfl (.cons rfl (.cons rfl (.cons (svI (show (0) = ((0 : Int)) by first | rfl | omega | exact wrap_le (by omega) (by omega) | (rw [wrap_le (by omega) (by omega)]; omega))) .nil)))) .nil) (show 0 ≤ l.length ∧ allTo 0 (fun i => !p (l.getD i default)) = true by exact ⟨by omega, rfl⟩)
 ·rintro j hI
  have hI : j ≤ l.length ∧ allTo j (fun i => !p (l.getD i default)) = true := hI
  refine .seq <| .rs fun k4 => .bi rfl <| .z <| .seq ?_
  refine .cond (t := decide ((j : Int) < (l.length : Int))) rfl (fun c0 => ?_) (fun c0 => ?_)
  ·have c0 := of_decide_eq_true c0
   refine .skip <| .seq <| .block <| .seq <| .rs fun k5 => .mv rfl <| .as rfl <| .z <| .seq ?_
   refine .rs fun k6 => .mv rfl <| .mv rfl <| .mv rfl <| .g (fun _ τ => ⟨_, .indexAddr (.no rfl) rfl (j) t79 rfl t112 rfl rfl rfl (.d _ _) rfl rfl rfl (map_get (by omega)) rfl rfl τ⟩) <| .lda t112 rfl (.d _) rfl <| .g (fun _ τ => ⟨_, .callF (.no rfl) rfl (ds := [.v (.int .i64 ((l.getD j default).lo)), .v (.int .i64 ((l.getD j default).hi))]) (h_p (l.getD j default)) rfl rfl rfl rfl (.own [16, 0] .nil) rfl rfl rfl rfl rfl rfl τ⟩) <| .z ?_
   refine .cond (t := p (l.getD j default)) rfl (fun c1 => ?_) (fun c1 => ?_)
   ·have c1 := c1
    refine .seq <| .rs fun k7 => .mv rfl <| .as rfl <| .z <| .ret ?_
    exact fin0 (.inr rfl) (.one (svI (show ((j : Int)) = (idx p l) by exact (idx_found (j := j) (by omega) hI.2 (by simpa using c1)).symm)) .nil) (.dd .nil) rfl
   ·have c1 := c1
    refine .skip <| .rs fun k9 => .bi rfl <| .mv rfl <| .z ?_
    exact .here (j + 1) (.of (.cons rfl (.cons rfl (.cons rfl (.cons (svI (show (IntKind.wrap .i64 ((j : Int) + 1)) = (((j + 1) : Int)) by first | rfl | omega | exact wrap_le (by omega) (by omega) | (rw [wrap_le (by omega) (by omega)]; omega))) .nil)))) .nil) ⟨(show (j + 1) ≤ l.length ∧ allTo (j + 1) (fun i => !p (l.getD i default)) = true by exact ⟨by omega, allTo_step hI.2 (by simpa using c1)⟩), (show l.length - (j + 1) < l.length - j by omega)⟩
  ·have c0 := of_decide_eq_false c0
   refine .exit <| .seq <| .rs fun k10 => .as rfl <| .z <| .ret ?_
   exact fin0 (.inr rfl) (.one (svI (show (-1) = (idx p l) by exact (idx_none (by omega) hI.2).symm)) .nil) (.dd .nil) rfl
theorem c_ContainsFuncI (l : List Iv) (F_p : FuncId) (first_p : List (Bool × List D)) (caps_p : List D) (p : Iv → Bool) (h_p : ∀ (x0 : Iv), FnTrip Tryz.prog F_p first_p caps_p [(true, 2)] (Iv.c x0) [(false, 1)] [.v (.bool (p x0))]) : Trip Tryz.prog 169 [(false, 1), (false, 1)] ([.sl false 112 2 (List.map Iv.c (l))] ++ [.fn F_p first_p caps_p]) [(false, 1)] [.v (.bool (l.any p))] [] := by
 refine Trip.of Tryz.func169 (by decide) (c := _) rfl rfl (Nat.le_of_ble_eq_true rfl) rfl (AftOk.nil _) <| .sl (t := 0) rfl fun hs1l => .seq <| .rs fun k2 => .as rfl <| .z <| .seq <| .rs fun k3 => .mv rfl ?_
 refine .mv rfl <| .c0 (c_IndexFuncI l F_p first_p caps_p p h_p) rfl (.dd (.dd .nil)) (.own [7, 0] .nil) rfl <| .bi rfl <| .as rfl <| .z <| .ret ?_
 exact fin0 (.inr rfl) (.one (svB (show (decide ((idx p l) ≥ 0)) = (l.any p) by exact idx_any _ _)) .nil) (.dd .nil) rfl
theorem c_areAll1I (x : Iv) (F_p : FuncId) (first_p : List (Bool × List D)) (caps_p : List D) (p : Iv → Bool) (h_p : ∀ (x0 : Iv), FnTrip Tryz.prog F_p first_p caps_p [(true, 2)] (Iv.c x0) [(false, 1)] [.v (.bool (p x0))]) : Trip Tryz.prog 170 [(true, 2), (false, 1)] (Iv.c x ++ [.pt false [.fn F_p first_p caps_p]]) [(false, 1)] [.v (.bool (!p x))] [] := by
 refine Trip.of Tryz.func170 (by decide) (c := _) rfl rfl (Nat.le_of_ble_eq_true rfl) rfl (AftOk.nil _) <| .seq <| .rs fun k1 => .g (fun _ τ => ⟨_, .box (.no rfl) rfl rfl rfl rfl rfl τ⟩) <| .as rfl <| .z <| .seq <| .rs fun k2 => .ld t146 rfl (.d _) rfl ?_
 refine .lda t112 rfl (.ptr _ _ _ _ _ rfl) rfl <| .g (fun _ τ => ⟨_, .callF (.no rfl) rfl (ds := [.v (.int .i64 (x.lo)), .v (.int .i64 (x.hi))]) (h_p x) rfl rfl rfl rfl (.own [6, 0] .nil) rfl rfl rfl rfl rfl rfl τ⟩) <| .un rfl <| .as rfl <| .z <| .ret ?_
 exact fin0 (.inr rfl) (.one (svB (show (!(p x)) = (!p x) by rfl)) .nil) (.dd .nil) rfl
theorem c_areAllI (l : List Iv) (F_p : FuncId) (first_p : List (Bool × List D)) (caps_p : List D) (p : Iv → Bool) (h_p : ∀ (x0 : Iv), FnTrip Tryz.prog F_p first_p caps_p [(true, 2)] (Iv.c x0) [(false, 1)] [.v (.bool (p x0))]) : Trip Tryz.prog 150 [(false, 1), (false, 1)] ([.sl false 112 2 (List.map Iv.c (l))] ++ [.fn F_p first_p caps_p]) [(false, 1)] [.v (.bool (l.all p))] [] := by
 refine Trip.of Tryz.func150 (by decide) (c := _) rfl rfl (Nat.le_of_ble_eq_true rfl) rfl (AftOk.nil _) <| .sl (t := 0) rfl fun hs1l => .seq <| .rs fun k2 => .g (fun _ τ => ⟨_, .box (.no rfl) rfl rfl rfl rfl rfl τ⟩) <| .as rfl <| .z <| .seq <| .rs fun k3 => ?_
 refine .mv rfl <| .g (fun _ τ => ⟨_, .makeFunc (.no rfl) rfl rfl rfl rfl rfl τ⟩) <| .g (fun _ τ => ⟨_, .call (.no rfl) rfl [[3]] [([3], (k2, k2, .box [.d (.fn F_p first_p caps_p)]))] (c_ContainsFuncI l 170 [] [.pt false [.fn F_p first_p caps_p]] (fun x0 => !p x0) (fun x0 => c_areAll1I x0 F_p first_p caps_p p h_p)) rfl rfl rfl rfl rfl (.dd (.cons (Reads.clo0 (.cons (Reads.ptr0 (.head _) (.head _) (.cons (Reads.d _) .nil)) .nil)).gives .nil)) rfl rfl (fun _ => (ownCons (Owned.v _) ownNil)) (.own [7, 0] .nil) (.nil) rfl rfl rfl (AllH.get (.r rfl)) rfl rfl rfl τ⟩) <| .un rfl <| .as rfl <| .z <| .ret ?_
 exact fin0 (.inr rfl) (.one (svB (show (!(l.any (fun x0 => !p x0))) = (l.all p) by exact not_any _ _)) .nil) (.dd .nil) rfl
theorem c_isLetter (c : Int) : Trip Tryz.prog 124 [(false, 1)] ([.v (.int .u8 (c))]) [(false, 1)] [.v (.bool (decide (c ≥ 97) && decide (c ≤ 122)))] [] := by
 refine Trip.of Tryz.func124 (by decide) (c := _) rfl rfl (Nat.le_of_ble_eq_true rfl) rfl (AftOk.nil _) <| .seq <| .rs fun k1 => .as rfl <| .z <| .seq ?_
 refine .reg (X := Unit) (fun ζ => .of [(2, .one (.d (.v (.bool ((decide (c ≥ 97) && decide (c ≤ 122)))))))] []) [⟨[0], some 3, [], []⟩, ⟨[3], some 4, [], []⟩, ⟨[4], some 5, [], []⟩, ⟨[5, 0], some 6, [], []⟩, ⟨[5, 6], some 7, [], []⟩, ⟨[5, 7], some 8, [], []⟩, ⟨[8], some 2, [], []⟩] (fun k2 => ?_) ?_
 ·skip
  refine .move (.no rfl) rfl rfl rfl rfl <| .bin (.no rfl) rfl rfl rfl rfl rfl rfl <| .moveB (.no rfl) rfl rfl rfl rfl fun b3 g1_2 => ?_
  cases b3
  ·skip
   refine .off rfl rfl rfl rfl rfl rfl rfl <| .off rfl rfl rfl rfl rfl rfl rfl <| .pick (.no rfl) rfl rfl rfl rfl rfl <| .assign (.no rfl) rfl rfl rfl rfl ?_
   exact .fin () (.of (.cons (svB (show (false) = ((decide (c ≥ 97) && decide (c ≤ 122))) by first | (simp only [g1_2, Bool.true_or, Bool.false_or, Bool.true_and, Bool.false_and, Bool.not_true, Bool.not_false]; done) | simp [g1_2])) .nil) .nil)
  ·skip
   refine .move (.on rfl rfl rfl rfl rfl) rfl rfl rfl rfl <| .bin (.on rfl rfl rfl rfl rfl) rfl rfl rfl rfl rfl rfl <| .pick (.no rfl) rfl rfl rfl rfl rfl <| .assign (.no rfl) rfl rfl rfl rfl ?_
   exact .fin () (.of (.cons (svB (show (decide (c ≤ 122)) = ((decide (c ≥ 97) && decide (c ≤ 122))) by first | (simp only [g1_2, Bool.true_or, Bool.false_or, Bool.true_and, Bool.false_and, Bool.not_true, Bool.not_false]; done) | simp [g1_2])) .nil) .nil)
 intro _
 refine .ret ?_
 exact fin0 (.inr rfl) (.one (svB (show ((decide (c ≥ 97) && decide (c ≤ 122))) = (decide (c ≥ 97) && decide (c ≤ 122)) by rfl)) .nil) (.dd .nil) rfl
theorem c_within (n : Int) (lo : Int) (hi : Int) : Trip Tryz.prog 93 [(false, 1), (false, 1), (false, 1)] ([.v (.int .i64 (n))] ++ [.v (.int .i64 (lo))] ++ [.v (.int .i64 (hi))]) [(false, 1)] [.v (.bool (inR n lo hi))] [] := by
 refine Trip.of Tryz.func93 (by decide) (c := _) rfl rfl (Nat.le_of_ble_eq_true rfl) rfl (AftOk.nil _) <| .seq <| .rs fun k1 => .as rfl <| .z <| .seq ?_
 refine .reg (X := Unit) (fun ζ => .of [(6, .one (.d (.v (.bool ((decide (lo ≤ n) && decide (n ≤ hi)))))))] []) [⟨[1], some 7, [], []⟩, ⟨[0], some 8, [], []⟩, ⟨[7, 8], some 9, [], []⟩, ⟨[9], some 10, [], []⟩, ⟨[10, 0], some 11, [], []⟩, ⟨[10, 2], some 12, [], []⟩, ⟨[10, 11, 12], some 13, [], []⟩, ⟨[10, 13], some 14, [], []⟩, ⟨[14], some 6, [], []⟩] (fun k2 => ?_) ?_
 ·skip
  refine .move (.no rfl) rfl rfl rfl rfl <| .move (.no rfl) rfl rfl rfl rfl <| .bin (.no rfl) rfl rfl rfl rfl rfl rfl <| .moveB (.no rfl) rfl rfl rfl rfl fun b3 g1_3 => ?_
  cases b3
  ·skip
   refine .off rfl rfl rfl rfl rfl rfl rfl <| .off rfl rfl rfl rfl rfl rfl rfl <| .off rfl rfl rfl rfl rfl rfl rfl <| .pick (.no rfl) rfl rfl rfl rfl rfl <| .assign (.no rfl) rfl rfl rfl rfl ?_
   exact .fin () (.of (.cons (svB (show (false) = ((decide (lo ≤ n) && decide (n ≤ hi))) by first | (simp only [g1_3, Bool.true_or, Bool.false_or, Bool.true_and, Bool.false_and, Bool.not_true, Bool.not_false]; done) | simp [g1_3])) .nil) .nil)
  ·skip
   refine .move (.on rfl rfl rfl rfl rfl) rfl rfl rfl rfl <| .move (.on rfl rfl rfl rfl rfl) rfl rfl rfl rfl <| .bin (.on rfl rfl rfl rfl rfl) rfl rfl rfl rfl rfl rfl <| .pick (.no rfl) rfl rfl rfl rfl rfl <| .assign (.no rfl) rfl rfl rfl rfl ?_
   exact .fin () (.of (.cons (svB (show (decide (n ≤ hi)) = ((decide (lo ≤ n) && decide (n ≤ hi))) by first | (simp only [g1_3, Bool.true_or, Bool.false_or, Bool.true_and, Bool.false_and, Bool.not_true, Bool.not_false]; done) | simp [g1_3])) .nil) .nil)
 intro _
 refine .ret ?_
 exact fin0 (.inr rfl) (.one (svB (show ((decide (lo ≤ n) && decide (n ≤ hi))) = (inR n lo hi) by rfl)) .nil) (.dd .nil) rfl
theorem c_IndexS (l : List ByteArray) (s : ByteArray) : Trip Tryz.prog 126 [(false, 1), (false, 1)] ([.sl false 9 1 (List.map strc (l))] ++ [.v (.string (s))]) [(false, 1)] [.v (.int .i64 (idx (fun x => strEq s x) l))] [] := by
 refine Trip.of Tryz.func126 (by decide) (c := _) rfl rfl (Nat.le_of_ble_eq_true rfl) rfl (AftOk.nil _) <| .sl (t := 0) rfl fun hs1l => .seq <| .rs fun k2 => .as rfl <| .z <| .seq <| .seq <| .rs fun k3 => ?_
 refine .mv rfl <| .g (fun _ τ => ⟨_, .len (.no rfl) rfl (z := (l.length : Int)) t22 rfl rfl rfl (.d _ _) (map_len _ _) rfl τ⟩) <| .mv rfl <| .z <| .block ?_
 refine .loop (X := Nat) (fun ζ => .of [(0, .one (.d (.sl false 9 1 (List.map strc (l))))), (1, .one (.d (.v (.string (s))))), (7, .one (.d (.v (.int .i64 ((l.length : Int)))))), (8, .one (.d (.v (.int .i64 ((ζ : Int))))))] []) (fun ζ => ζ ≤ l.length ∧ allTo ζ (fun i => !strEq s (l.getD i default)) = true) (fun ζ => l.length - ζ) ?_ ?_
 ·skip
  exact .here 0 (.of (.cons rfl (.cons rfl (.cons rfl (.cons (svI (show (0) = ((0 : Int)) by first | rfl | omega | exact wrap_le (by omega) (by omega) | (rw [wrap_le (by omega) (by omega)]; omega))) .nil)))) .nil) (show 0 ≤ l.length ∧ allTo 0 (fun i => !strEq s (l.getD i default)) = true by exact ⟨by omega, rfl⟩)
 ·rintro j hI
  have hI : j ≤ l.length ∧ allTo j (fun i => !strEq s (l.getD i default)) = true := hI
  refine .seq <| .rs fun k4 => .bi rfl <| .z <| .seq ?_
  refine .cond (t := decide ((j : Int) < (l.length : Int))) rfl (fun c0 => ?_) (fun c0 => ?_)
  ·have c0 := of_decide_eq_true c0
   refine .skip <| .seq <| .block <| .seq <| .rs fun k5 => .mv rfl <| .as rfl <| .z <| .seq ?_
   refine .rs fun k6 => .mv rfl <| .mv rfl <| .mv rfl <| .g (fun _ τ => ⟨_, .indexAddr (.no rfl) rfl (j) t22 rfl t9 rfl rfl rfl (.d _ _) rfl rfl rfl (map_get (by omega)) rfl rfl τ⟩) <| .ld t9 rfl (.d _) rfl <| .bi rfl <| .z ?_
   refine .cond (t := s.toList == (l.getD j default).toList) rfl (fun c1 => ?_) (fun c1 => ?_)
   ·have c1 := c1
    refine .seq <| .rs fun k7 => .mv rfl <| .as rfl <| .z <| .ret ?_
    exact fin0 (.inr rfl) (.one (svI (show ((j : Int)) = (idx (fun x => strEq s x) l) by exact (idx_found (p := fun x => strEq s x) (by omega) hI.2 c1).symm)) .nil) (.dd .nil) rfl
   ·have c1 := c1
    refine .skip <| .rs fun k9 => .bi rfl <| .mv rfl <| .z ?_
    exact .here (j + 1) (.of (.cons rfl (.cons rfl (.cons rfl (.cons (svI (show (IntKind.wrap .i64 ((j : Int) + 1)) = (((j + 1) : Int)) by first | rfl | omega | exact wrap_le (by omega) (by omega) | (rw [wrap_le (by omega) (by omega)]; omega))) .nil)))) .nil) ⟨(show (j + 1) ≤ l.length ∧ allTo (j + 1) (fun i => !strEq s (l.getD i default)) = true by exact ⟨by omega, allTo_step hI.2 (by rw [show strEq s (l.getD j default) = false from c1]; rfl)⟩), (show l.length - (j + 1) < l.length - j by omega)⟩
  ·have c0 := of_decide_eq_false c0
   refine .exit <| .seq <| .rs fun k10 => .as rfl <| .z <| .ret ?_
   exact fin0 (.inr rfl) (.one (svI (show (-1) = (idx (fun x => strEq s x) l) by exact (idx_none (p := fun x => strEq s x) (by omega) hI.2).symm)) .nil) (.dd .nil) rfl
theorem c_ContainsS (l : List ByteArray) (s : ByteArray) : Trip Tryz.prog 91 [(false, 1), (false, 1)] ([.sl false 9 1 (List.map strc (l))] ++ [.v (.string (s))]) [(false, 1)] [.v (.bool (l.any fun x => strEq s x))] [] := by
 refine Trip.of Tryz.func91 (by decide) (c := _) rfl rfl (Nat.le_of_ble_eq_true rfl) rfl (AftOk.nil _) <| .sl (t := 0) rfl fun hs1l => .seq <| .rs fun k2 => .as rfl <| .z <| .seq <| .rs fun k3 => .mv rfl ?_
 refine .mv rfl <| .c0 (c_IndexS l s) rfl (.dd (.dd .nil)) (.own [7, 0] .nil) rfl <| .bi rfl <| .as rfl <| .z <| .ret ?_
 exact fin0 (.inr rfl) (.one (svB (show (decide ((idx (fun x => strEq s x) l) ≥ 0)) = (l.any fun x => strEq s x) by exact idx_any _ _)) .nil) (.dd .nil) rfl
theorem asciiTab {W : World} {Z : Nat → Prop} (h : Laid W Z) : ∀ c : Nat, c < 256 → W.cell? ⟨0, c, none⟩ = some (.int .u8 (if Lib.isSp (UInt8.ofNat c) then 1 else 0)) := fun c hc => by
  obtain ⟨_, h2⟩ := h _ (List.mem_singleton.2 rfl)
  obtain ⟨v, h3, h4⟩ := h2 c (.v (.int .u8 (if Lib.isSp (UInt8.ofNat c) then 1 else 0))) (by simp [hc])
  cases h4; exact h3
def words : ByteArray := (⟨#[118, 97, 114, 32, 102, 108, 97, 103, 32, 97, 114, 114, 97, 121, 32, 105, 102, 32, 102, 111, 114, 107, 32, 101, 108, 115, 101, 32, 101, 110, 100, 32, 119, 104, 105, 108, 101, 32, 117, 110, 114, 111, 108, 108, 32, 97, 115, 115, 101, 114, 116, 32, 97, 115, 115, 117, 109, 101, 32, 105, 110, 112, 117, 116, 32, 115, 112, 108, 105, 116, 32, 109, 101, 114, 103, 101, 32, 116, 114, 117, 101, 32, 102, 97, 108, 115, 101]⟩ : ByteArray)
theorem words_ascii : ∀ (j : Nat) b, words.data.toList[j]? = some b → b.toNat < 128 := fun j b h => by
  have h1 : (words.data.toList.all fun b => decide (b.toNat < 128)) = true := by kernel_rfl
  exact of_decide_eq_true (List.all_eq_true.1 h1 b (List.mem_of_getElem? h))
theorem words_fields : Lib.fields words.data.toList = keys.map fun k => k.data.toList := by kernel_rfl
theorem c_Fields : Trip Tryz.prog 157 [(false, 1)] ([.v (.string (⟨#[118, 97, 114, 32, 102, 108, 97, 103, 32, 97, 114, 114, 97, 121, 32, 105, 102, 32, 102, 111, 114, 107, 32, 101, 108, 115, 101, 32, 101, 110, 100, 32, 119, 104, 105, 108, 101, 32, 117, 110, 114, 111, 108, 108, 32, 97, 115, 115, 101, 114, 116, 32, 97, 115, 115, 117, 109, 101, 32, 105, 110, 112, 117, 116, 32, 115, 112, 108, 105, 116, 32, 109, 101, 114, 103, 101, 32, 116, 114, 117, 101, 32, 102, 97, 108, 115, 101]⟩ : ByteArray))]) [(false, 1)] [.sl true 9 1 (List.map strc (keys))] [] := by
  have h := Trip.row1 (P := Tryz.prog) (f := 157) (x := .string words) (cs := keys.map .string) (e := 9) ⟨_, Tryz.func157, by decide, by decide⟩ rfl (by intro v hv; obtain ⟨s, _, rfl⟩ := List.mem_map.1 hv; rfl) (by decide) fun W Z hL _ =>
    (Any.strings_Fields_core Tryz.lays157 (by kernel_rfl) words W (by decide) words_ascii (asciiTab hL)).mono fun e w' ⟨h1, h2⟩ => by
      rw [words_fields] at h1 h2
      exact ⟨h1, h2⟩
  exact h
theorem c_isWord (s : ByteArray) : Trip Tryz.prog 125 [(false, 1)] ([.v (.string (s))]) [(false, 1)] [.v (.bool (isKey s))] [] := by
 refine Trip.of Tryz.func125 (by decide) (c := _) rfl rfl (Nat.le_of_ble_eq_true rfl) rfl (AftOk.nil _) <| .seq <| .rs fun k1 => .as rfl <| .z <| .seq <| .rs fun k2 => .c0 (c_Fields ) rfl (.dd .nil) (.frz [3, 0] (Frz.of_erase (erase_slo _ _ _ _ _ _ strc_e)) .nil) rfl <| .mv rfl ?_
 refine .c0 (c_ContainsS keys s) rfl (.dd (.dd .nil)) (.own [5, 0] .nil) rfl <| .as rfl <| .z <| .ret ?_
 exact fin0 (.inr rfl) (.one (svB (show (keys.any fun x => strEq s x) = (isKey s) by exact isKey_eq s)) .nil) (.dd .nil) rfl
theorem c_isName (s : ByteArray) (hs : s.size ≤ 9223372036854775807) : Trip Tryz.prog 90 [(false, 1)] ([.v (.string (s))]) [(false, 1)] [.v (.bool (nmOk s))] [] := by
 refine Trip.of Tryz.func90 (by decide) (c := _) rfl rfl (Nat.le_of_ble_eq_true rfl) rfl (AftOk.nil _) <| .seq <| .rs fun k1 => .as rfl <| .z <| .seq <| .seq <| .rs fun k2 => .mv rfl ?_
 refine .g (fun _ τ => ⟨_, .lenStr (.no rfl) rfl t9 rfl rfl rfl rfl rfl τ⟩) <| .mv rfl <| .z <| .block ?_
 refine .loop (X := Nat) (fun ζ => .of [(0, .one (.d (.v (.string (s))))), (5, .one (.d (.v (.int .i64 ((s.size : Int)))))), (6, .one (.d (.v (.int .i64 ((ζ : Int))))))] []) (fun ζ => ζ ≤ s.size ∧ allTo ζ (fun i => decide (97 ≤ byteAt s i ∧ byteAt s i ≤ 122)) = true) (fun ζ => s.size - ζ) ?_ ?_
 ·skip
  exact .here 0 (.of (.cons rfl (.cons rfl (.cons (svI (show (0) = ((0 : Int)) by first | rfl | omega | exact wrap_le (by omega) (by omega) | (rw [wrap_le (by omega) (by omega)]; omega))) .nil))) .nil) (show 0 ≤ s.size ∧ allTo 0 (fun i => decide (97 ≤ byteAt s i ∧ byteAt s i ≤ 122)) = true by exact ⟨by omega, rfl⟩)
 ·rintro j hI
  have hI : j ≤ s.size ∧ allTo j (fun i => decide (97 ≤ byteAt s i ∧ byteAt s i ≤ 122)) = true := hI
  refine .seq <| .rs fun k3 => .bi rfl <| .z <| .seq ?_
  refine .cond (t := decide ((j : Int) < (s.size : Int))) rfl (fun c0 => ?_) (fun c0 => ?_)
  ·have c0 := of_decide_eq_true c0
   refine .skip <| .seq <| .block <| .seq <| .rs fun k4 => .mv rfl <| .as rfl <| .z <| .seq ?_
   refine .rs fun k5 => .mv rfl <| .mv rfl <| .g (fun _ τ => ⟨_, .indexStr (.no rfl) rfl (z := byteAt s j) (j) t9 rfl rfl rfl rfl rfl (b8_get (by omega)) rfl rfl τ⟩) <| .c0 (c_isLetter (byteAt s j)) rfl (.dd .nil) (.own [12, 0] .nil) rfl <| .un rfl <| .z ?_
   refine .cond (t := !(decide ((byteAt s j) ≥ 97) && decide ((byteAt s j) ≤ 122))) rfl (fun c1 => ?_) (fun c1 => ?_)
   ·have c1 := (nT (aF dF dF)) c1
    refine .seq <| .rs fun k6 => .as rfl <| .z <| .ret ?_
    exact fin0 (.inr rfl) (.one (svB (show (false) = (nmOk s) by (simp only [nmOk, letters]; rw [allTo_fail (j := j) (by omega) (by simp only [decide_eq_false_iff_not]; omega)]; rfl))) .nil) (.dd .nil) rfl
   ·have c1 := (nF (aT dT dT)) c1
    refine .skip <| .rs fun k8 => .bi rfl <| .mv rfl <| .z ?_
    exact .here (j + 1) (.of (.cons rfl (.cons rfl (.cons (svI (show (IntKind.wrap .i64 ((j : Int) + 1)) = (((j + 1) : Int)) by first | rfl | omega | exact wrap_le (by omega) (by omega) | (rw [wrap_le (by omega) (by omega)]; omega))) .nil))) .nil) ⟨(show (j + 1) ≤ s.size ∧ allTo (j + 1) (fun i => decide (97 ≤ byteAt s i ∧ byteAt s i ≤ 122)) = true by exact ⟨by omega, allTo_step hI.2 (by simp only [decide_eq_true_eq]; omega)⟩), (show s.size - (j + 1) < s.size - j by omega)⟩
  ·have c0 := of_decide_eq_false c0
   refine .exit <| .seq ?_
   refine .reg (X := Unit) (fun ζ => .of [(2, .one (.d (.v (.bool ((inR (s.size : Int) 1 8 && !(isKey s)))))))] []) [⟨[0], some 15, [], []⟩, ⟨[15], some 16, [], []⟩, ⟨[16], some 17, [], []⟩, ⟨[17], some 18, [], []⟩, ⟨[18, 0], some 19, [], []⟩, ⟨[18, 19], some 20, [], []⟩, ⟨[18, 20], some 21, [], []⟩, ⟨[18, 21], some 22, [], []⟩, ⟨[22], some 2, [], []⟩] (fun k9 => ?_) ?_
   ·skip
    refine .move (.no rfl) rfl rfl rfl rfl <| .lenStr (.no rfl) rfl t9 rfl rfl rfl rfl rfl <| .call (.no rfl) rfl [] [] (c_within (s.size : Int) 1 8) rfl rfl rfl rfl rfl (.dd (.dd (.dd .nil))) rfl rfl (fun h => absurd rfl h) (.own [17, 0] .nil) (.nil) rfl rfl rfl (by simp) rfl rfl rfl <| .moveB (.no rfl) rfl rfl rfl rfl fun b10 g7_3 => ?_
    cases b10
    ·skip
     refine .off rfl rfl rfl rfl rfl rfl rfl <| .off rfl rfl rfl rfl rfl rfl rfl <| .off rfl rfl rfl rfl rfl rfl rfl <| .pick (.no rfl) rfl rfl rfl rfl rfl <| .assign (.no rfl) rfl rfl rfl rfl ?_
     exact .fin () (.of (.cons (svB (show (false) = ((inR (s.size : Int) 1 8 && !(isKey s))) by first | (simp only [g7_3, Bool.true_or, Bool.false_or, Bool.true_and, Bool.false_and, Bool.not_true, Bool.not_false]; done) | simp [g7_3])) .nil) .nil)
    ·skip
     refine .move (.on rfl rfl rfl rfl rfl) rfl rfl rfl rfl <| .call (.on rfl rfl rfl rfl rfl) rfl [] [] (c_isWord s) rfl rfl rfl rfl rfl (.dd .nil) rfl rfl (fun h => absurd rfl h) (.own [20, 0] .nil) (.nil) rfl rfl rfl (by simp) rfl rfl rfl <| .un (.on rfl rfl rfl rfl rfl) rfl rfl rfl rfl rfl <| .pick (.no rfl) rfl rfl rfl rfl rfl <| .assign (.no rfl) rfl rfl rfl rfl ?_
     exact .fin () (.of (.cons (svB (show (!(isKey s)) = ((inR (s.size : Int) 1 8 && !(isKey s))) by first | (simp only [g7_3, Bool.true_or, Bool.false_or, Bool.true_and, Bool.false_and, Bool.not_true, Bool.not_false]; done) | simp [g7_3])) .nil) .nil)
   intro _
   refine .ret ?_
   exact fin0 (.inr rfl) (.one (svB (show ((inR (s.size : Int) 1 8 && !(isKey s))) = (nmOk s) by (have hj : j = s.size := (by omega); subst hj; simp only [nmOk, letters]; rw [hI.2]; rfl))) .nil) (.dd .nil) rfl
theorem c_isRight1 (a : Arr) : Trip Tryz.prog 92 [(true, 2)] (Arr.c a) [(false, 1)] [.v (.bool (inR a.size 1 16))] [] := by
 refine Trip.of Tryz.func92 (by decide) (c := _) rfl rfl (Nat.le_of_ble_eq_true rfl) rfl (AftOk.nil _) <| .seq <| .rs fun k1 => .g (fun _ τ => ⟨_, .box (.no rfl) rfl rfl rfl rfl rfl τ⟩) <| .as rfl <| .z <| .seq <| .rs fun k2 => .fp t89 t2 rfl ?_
 refine .ld t2 rfl (.ptr _ _ _ _ _ rfl) rfl <| .c0 (c_within a.size 1 16) rfl (.dd (.dd (.dd .nil))) (.own [5, 0] .nil) rfl <| .as rfl <| .z <| .ret ?_
 exact fin0 (.inr rfl) (.one rfl .nil) (.dd .nil) rfl
theorem c_isRight (d : Decl) (hs : ∀ x ∈ Decl.names d, x.size ≤ 9223372036854775807) (hb : d.vars.length ≤ 1048576 ∧ d.flags.length ≤ 1048576 ∧ d.arrays.length ≤ 1048576) : Trip Tryz.prog 60 [(true, 3)] (Decl.c33 d) [(false, 1)] [.v (.bool (Decl.ok d))] [] := by
 refine Trip.of Tryz.func60 (by decide) (c := _) rfl rfl (Nat.le_of_ble_eq_true rfl) rfl (AftOk.nil _) <| .sla (t := 0) 0 rfl rfl fun hs1l => .sla (t := 0) 1 rfl rfl fun hs2l => .sla (t := 0) 2 rfl rfl fun hs3l => .seq <| .rs fun k4 => .g (fun _ τ => ⟨_, .box (.no rfl) rfl rfl rfl rfl rfl τ⟩) <| .as rfl <| .z ?_
 refine .seq <| .rs fun k5 => .lda t33 rfl (.ptr _ _ _ _ _ rfl) rfl <| .c0 (c_names d (by first | assumption | omega | exact hs _ (getD_mem (by omega)))) rfl (.dd (.dd (.dd .nil))) (.frz [8, 0] (Frz.of_erase (erase_slo _ _ _ _ _ _ strc_e)) .nil) rfl <| .as rfl <| .z <| .seq <| .seq <| .rs fun k6 => ?_
 refine .mv rfl <| .g (fun _ τ => ⟨_, .len (.no rfl) rfl (z := ((Decl.names d).length : Int)) t22 rfl rfl rfl (.d _ _) (map_len _ _) rfl τ⟩) <| .mv rfl <| .z <| .block ?_
 refine .loop (X := Nat) (fun ζ => .of [(1, .one (.ptr [1] (k4) 0)), (3, .one (.d (.sl false 9 1 (List.map strc (Decl.names d))))), (9, .one (.d (.sl false 9 1 (List.map strc (Decl.names d))))), (10, .one (.d (.v (.int .i64 (((Decl.names d).length : Int)))))), (11, .one (.d (.v (.int .i64 ((ζ : Int))))))] [([1], (k4, k4, .box [.d (.sl false 9 1 (List.map strc (d.vars))), .d (.sl false 9 1 (List.map strc (d.flags))), .d (.sl false 89 2 (List.map Arr.c (d.arrays)))]))]) (fun ζ => ζ ≤ (Decl.names d).length ∧ allTo ζ (nameOk (Decl.names d)) = true) (fun ζ => (Decl.names d).length - ζ) ?_ ?_
 ·skip
  exact .here 0 (.of (.cons rfl (.cons rfl (.cons rfl (.cons rfl (.cons (svI (show (0) = ((0 : Int)) by first | rfl | omega | exact wrap_le (by omega) (by omega) | (rw [wrap_le (by omega) (by omega)]; omega))) .nil))))) (.r rfl)) (show 0 ≤ (Decl.names d).length ∧ allTo 0 (nameOk (Decl.names d)) = true by exact ⟨by omega, rfl⟩)
 ·rintro j hI
  have hI : j ≤ (Decl.names d).length ∧ allTo j (nameOk (Decl.names d)) = true := hI
  have hn9 : (Decl.names d).length ≤ 3145728 := by simp [Decl.names]; omega
  refine .seq <| .rs fun k7 => .bi rfl <| .z <| .seq ?_
  refine .cond (t := decide ((j : Int) < ((Decl.names d).length : Int))) rfl (fun c0 => ?_) (fun c0 => ?_)
  ·have c0 := of_decide_eq_true c0
   refine .skip <| .seq <| .block <| .seq <| .rs fun k8 => .mv rfl <| .g (fun _ τ => ⟨_, .indexAddr (.no rfl) rfl (j) t22 rfl t9 rfl rfl rfl (.d _ _) rfl rfl rfl (map_get (by omega)) rfl rfl τ⟩) <| .ld t9 rfl (.d _) rfl <| .as rfl ?_
   refine .as rfl <| .z <| .seq ?_
   refine .reg (X := Unit) (fun ζ => .of [(1, .one (.ptr [1] (k4) 0)), (3, .one (.d (.sl false 9 1 (List.map strc (Decl.names d))))), (9, .one (.d (.sl false 9 1 (List.map strc (Decl.names d))))), (10, .one (.d (.v (.int .i64 (((Decl.names d).length : Int)))))), (11, .one (.d (.v (.int .i64 ((j : Int)))))), (25, .one (.d (.v (.bool ((!(nmOk ((Decl.names d).getD (j) default)) || ((Decl.names d).take j).any fun x => strEq ((Decl.names d).getD (j) default) x))))))] [([1], (k4, k4, .box [.d (.sl false 9 1 (List.map strc (d.vars))), .d (.sl false 9 1 (List.map strc (d.flags))), .d (.sl false 89 2 (List.map Arr.c (d.arrays)))]))]) [⟨[5], some 16, [], []⟩, ⟨[16], some 17, [], []⟩, ⟨[17], some 18, [], []⟩, ⟨[18], some 19, [], []⟩, ⟨[19, 3], some 20, [], []⟩, ⟨[19, 4], some 21, [], []⟩, ⟨[19, 20, 21], some 22, [], []⟩, ⟨[19, 5], some 23, [], []⟩, ⟨[19, 22, 23], some 24, [], []⟩, ⟨[19, 24], some 25, [], []⟩] (fun k9 => ?_) ?_
   ·skip
    refine .move (.no rfl) rfl rfl rfl rfl <| .call (.no rfl) rfl [] [] (c_isName ((Decl.names d).getD (j) default) (by first | assumption | omega | exact hs _ (getD_mem (by omega)))) rfl rfl rfl rfl rfl (.dd .nil) rfl rfl (fun h => absurd rfl h) (.own [17, 0] .nil) (.nil) rfl rfl rfl (by simp) rfl rfl rfl <| .un (.no rfl) rfl rfl rfl rfl rfl <| .moveB (.no rfl) rfl rfl rfl rfl fun b10 g5_3 => ?_
    cases b10
    ·skip
     refine .move (.on rfl rfl rfl rfl rfl) rfl rfl rfl rfl <| .move (.on rfl rfl rfl rfl rfl) rfl rfl rfl rfl <| .slice (.on rfl rfl rfl rfl rfl) rfl (lv := 0) (hv := j) (m := 0) t22 rfl t9 rfl rfl (.d _ _) rfl (by intro _ _ h; cases h) (by exact rfl) (by exact ⟨_, rfl⟩) (Nat.zero_le _) (le_map (by omega)) (cut_d0 _ _ _ _ _ _ _ _ _) rfl <| .move (.on rfl rfl rfl rfl rfl) rfl rfl rfl rfl <| .call (.on rfl rfl rfl rfl rfl) rfl [] [] (c_ContainsS ((Decl.names d).take j) ((Decl.names d).getD (j) default)) rfl rfl rfl rfl rfl (.dd (.dd .nil)) rfl rfl (fun h => absurd rfl h) (.own [24, 0] .nil) (.nil) rfl rfl rfl (by simp) rfl rfl rfl <| .pick (.no rfl) rfl rfl rfl rfl rfl ?_
     exact .fin () (.of (.cons rfl (.cons rfl (.cons rfl (.cons rfl (.cons rfl (.cons (svB (show (((Decl.names d).take j).any fun x => strEq ((Decl.names d).getD (j) default) x) = ((!(nmOk ((Decl.names d).getD (j) default)) || ((Decl.names d).take j).any fun x => strEq ((Decl.names d).getD (j) default) x)) by first | (simp only [g5_3, Bool.true_or, Bool.false_or, Bool.true_and, Bool.false_and, Bool.not_true, Bool.not_false]; done) | simp [g5_3])) .nil)))))) (.r rfl))
    ·skip
     refine .off rfl rfl rfl rfl rfl rfl rfl <| .off rfl rfl rfl rfl rfl rfl rfl <| .off rfl rfl rfl rfl rfl rfl rfl <| .off rfl rfl rfl rfl rfl rfl rfl <| .off rfl rfl rfl rfl rfl rfl rfl <| .pick (.no rfl) rfl rfl rfl rfl rfl ?_
     exact .fin () (.of (.cons rfl (.cons rfl (.cons rfl (.cons rfl (.cons rfl (.cons (svB (show (true) = ((!(nmOk ((Decl.names d).getD (j) default)) || ((Decl.names d).take j).any fun x => strEq ((Decl.names d).getD (j) default) x)) by first | (simp only [g5_3, Bool.true_or, Bool.false_or, Bool.true_and, Bool.false_and, Bool.not_true, Bool.not_false]; done) | simp [g5_3])) .nil)))))) (.r rfl))
   intro _
   refine .cond (t := (!(nmOk ((Decl.names d).getD (j) default)) || ((Decl.names d).take j).any fun x => strEq ((Decl.names d).getD (j) default) x)) rfl (fun c1 => ?_) (fun c1 => ?_)
   ·have c1 := (oT (nT id) id) c1
    refine .seq <| .rs fun k11 => .as rfl <| .z <| .ret ?_
    exact fin0 (.inr rfl) (.one (svB (show (false) = (Decl.ok d) by exact (Decl.ok_name2 (j := j) (by omega) c1).symm)) .nil) (.dd .nil) rfl
   ·have c1 := (oF (nF id) id) c1
    refine .skip <| .rs fun k13 => .bi rfl <| .mv rfl <| .z ?_
    exact .here (j + 1) (.of (.cons rfl (.cons rfl (.cons rfl (.cons rfl (.cons (svI (show (IntKind.wrap .i64 ((j : Int) + 1)) = (((j + 1) : Int)) by first | rfl | omega | exact wrap_le (by omega) (by omega) | (rw [wrap_le (by omega) (by omega)]; omega))) .nil))))) (.r rfl)) ⟨(show (j + 1) ≤ (Decl.names d).length ∧ allTo (j + 1) (nameOk (Decl.names d)) = true by exact ⟨by omega, allTo_step hI.2 (nameOk_of2 c1)⟩), (show (Decl.names d).length - (j + 1) < (Decl.names d).length - j by omega)⟩
  ·have c0 := of_decide_eq_false c0
   refine .exit <| .seq <| .rs fun k14 => .as rfl <| .z <| .seq ?_
   refine .reg (X := Unit) (fun ζ => .of [(2, .one (.d (.v (.bool ((((decide ((d.vars.length : Int) ≤ 5) && decide ((d.flags.length : Int) ≤ 3)) && decide ((d.arrays.length : Int) ≤ 2)) && d.arrays.all (fun x0 => inR x0.size 1 16)))))))] []) [⟨[1], some 27, [], []⟩, ⟨[27], some 28, [[1]], []⟩, ⟨[28], some 29, [], []⟩, ⟨[29], some 30, [], []⟩, ⟨[30], some 31, [], []⟩, ⟨[31, 1], some 32, [], []⟩, ⟨[31, 32], some 33, [[1]], []⟩, ⟨[31, 33], some 34, [], []⟩, ⟨[31, 34], some 35, [], []⟩, ⟨[31, 35], some 36, [], []⟩, ⟨[36], some 37, [], []⟩, ⟨[37, 1], some 38, [], []⟩, ⟨[37, 38], some 39, [[1]], []⟩, ⟨[37, 39], some 40, [], []⟩, ⟨[37, 40], some 41, [], []⟩, ⟨[37, 41], some 42, [], []⟩, ⟨[42], some 43, [], []⟩, ⟨[43, 1], some 44, [], []⟩, ⟨[43, 44], some 45, [[1]], []⟩, ⟨[43, 6], some 46, [], []⟩, ⟨[43, 45, 46], some 47, [], []⟩, ⟨[43, 47], some 48, [], []⟩, ⟨[48], some 2, [], []⟩] (fun k15 => ?_) ?_
   ·skip
    refine .fieldAddrP (.no rfl) rfl t33 rfl rfl t22 rfl rfl rfl rfl <| .load (.no rfl) rfl t22 rfl rfl (.ptr _ _ _ _ _ rfl) rfl rfl rfl rfl <| .len (.no rfl) rfl (z := (d.vars.length : Int)) t22 rfl rfl rfl (.d _ _) (map_len _ _) rfl <| .bin (.no rfl) rfl rfl rfl rfl rfl rfl <| .moveB (.no rfl) rfl rfl rfl rfl fun b16 g9_4 => ?_
    cases b16
    ·skip
     refine .off rfl rfl rfl rfl rfl rfl rfl <| .off rfl rfl rfl rfl rfl rfl rfl <| .off rfl rfl rfl rfl rfl rfl rfl <| .off rfl rfl rfl rfl rfl rfl rfl <| .pick (.no rfl) rfl rfl rfl rfl rfl <| .move (.no rfl) rfl rfl rfl rfl <| .off rfl rfl rfl rfl rfl rfl rfl <| .off rfl rfl rfl rfl rfl rfl rfl <| .off rfl rfl rfl rfl rfl rfl rfl ?_
     refine .off rfl rfl rfl rfl rfl rfl rfl <| .pick (.no rfl) rfl rfl rfl rfl rfl <| .move (.no rfl) rfl rfl rfl rfl <| .off rfl rfl rfl rfl rfl rfl rfl <| .off rfl rfl rfl rfl rfl rfl rfl <| .off rfl rfl rfl rfl rfl rfl rfl <| .off rfl rfl rfl rfl rfl rfl rfl <| .pick (.no rfl) rfl rfl rfl rfl rfl <| .assign (.no rfl) rfl rfl rfl rfl ?_
     exact .fin () (.of (.cons (svB (show (false) = ((((decide ((d.vars.length : Int) ≤ 5) && decide ((d.flags.length : Int) ≤ 3)) && decide ((d.arrays.length : Int) ≤ 2)) && d.arrays.all (fun x0 => inR x0.size 1 16))) by first | (simp only [g9_4, Bool.true_or, Bool.false_or, Bool.true_and, Bool.false_and, Bool.not_true, Bool.not_false]; done) | simp [g9_4])) .nil) .nil)
    ·skip
     refine .fieldAddrP (.on rfl rfl rfl rfl rfl) rfl t33 rfl rfl t22 rfl rfl rfl rfl <| .load (.on rfl rfl rfl rfl rfl) rfl t22 rfl rfl (.ptr _ _ _ _ _ rfl) rfl rfl rfl rfl <| .len (.on rfl rfl rfl rfl rfl) rfl (z := (d.flags.length : Int)) t22 rfl rfl rfl (.d _ _) (map_len _ _) rfl <| .bin (.on rfl rfl rfl rfl rfl) rfl rfl rfl rfl rfl rfl <| .pick (.no rfl) rfl rfl rfl rfl rfl <| .moveB (.no rfl) rfl rfl rfl rfl fun b17 g9_10 => ?_
     cases b17
     ·skip
      refine .off rfl rfl rfl rfl rfl rfl rfl <| .off rfl rfl rfl rfl rfl rfl rfl <| .off rfl rfl rfl rfl rfl rfl rfl <| .off rfl rfl rfl rfl rfl rfl rfl <| .pick (.no rfl) rfl rfl rfl rfl rfl <| .move (.no rfl) rfl rfl rfl rfl <| .off rfl rfl rfl rfl rfl rfl rfl <| .off rfl rfl rfl rfl rfl rfl rfl <| .off rfl rfl rfl rfl rfl rfl rfl ?_
      refine .off rfl rfl rfl rfl rfl rfl rfl <| .pick (.no rfl) rfl rfl rfl rfl rfl <| .assign (.no rfl) rfl rfl rfl rfl ?_
      exact .fin () (.of (.cons (svB (show (false) = ((((decide ((d.vars.length : Int) ≤ 5) && decide ((d.flags.length : Int) ≤ 3)) && decide ((d.arrays.length : Int) ≤ 2)) && d.arrays.all (fun x0 => inR x0.size 1 16))) by first | (simp only [g9_4, g9_10, Bool.true_or, Bool.false_or, Bool.true_and, Bool.false_and, Bool.not_true, Bool.not_false]; done) | simp [g9_4, g9_10])) .nil) .nil)
     ·skip
      refine .fieldAddrP (.on rfl rfl rfl rfl rfl) rfl t33 rfl rfl t31 rfl rfl rfl rfl <| .load (.on rfl rfl rfl rfl rfl) rfl t31 rfl rfl (.ptr _ _ _ _ _ rfl) rfl rfl rfl rfl <| .len (.on rfl rfl rfl rfl rfl) rfl (z := (d.arrays.length : Int)) t31 rfl rfl rfl (.d _ _) (map_len _ _) rfl <| .bin (.on rfl rfl rfl rfl rfl) rfl rfl rfl rfl rfl rfl <| .pick (.no rfl) rfl rfl rfl rfl rfl <| .moveB (.no rfl) rfl rfl rfl rfl fun b18 g9_16 => ?_
      cases b18
      ·skip
       refine .off rfl rfl rfl rfl rfl rfl rfl <| .off rfl rfl rfl rfl rfl rfl rfl <| .off rfl rfl rfl rfl rfl rfl rfl <| .off rfl rfl rfl rfl rfl rfl rfl <| .pick (.no rfl) rfl rfl rfl rfl rfl <| .assign (.no rfl) rfl rfl rfl rfl ?_
       exact .fin () (.of (.cons (svB (show (false) = ((((decide ((d.vars.length : Int) ≤ 5) && decide ((d.flags.length : Int) ≤ 3)) && decide ((d.arrays.length : Int) ≤ 2)) && d.arrays.all (fun x0 => inR x0.size 1 16))) by first | (simp only [g9_4, g9_10, g9_16, Bool.true_or, Bool.false_or, Bool.true_and, Bool.false_and, Bool.not_true, Bool.not_false]; done) | simp [g9_4, g9_10, g9_16])) .nil) .nil)
      ·skip
       refine .fieldAddrP (.on rfl rfl rfl rfl rfl) rfl t33 rfl rfl t31 rfl rfl rfl rfl <| .load (.on rfl rfl rfl rfl rfl) rfl t31 rfl rfl (.ptr _ _ _ _ _ rfl) rfl rfl rfl rfl <| .move (.on rfl rfl rfl rfl rfl) rfl rfl rfl rfl <| .call (.on rfl rfl rfl rfl rfl) rfl [] [] (c_areAllA d.arrays 92 [] [] (fun x0 => inR x0.size 1 16) (fun x0 => c_isRight1 x0)) rfl rfl rfl rfl rfl (.dd (.dd .nil)) rfl rfl (fun h => absurd rfl h) (.own [47, 0] .nil) (.nil) rfl rfl rfl (by simp) rfl rfl rfl <| .pick (.no rfl) rfl rfl rfl rfl rfl <| .assign (.no rfl) rfl rfl rfl rfl ?_
       exact .fin () (.of (.cons (svB (show (d.arrays.all (fun x0 => inR x0.size 1 16)) = ((((decide ((d.vars.length : Int) ≤ 5) && decide ((d.flags.length : Int) ≤ 3)) && decide ((d.arrays.length : Int) ≤ 2)) && d.arrays.all (fun x0 => inR x0.size 1 16))) by first | (simp only [g9_4, g9_10, g9_16, Bool.true_or, Bool.false_or, Bool.true_and, Bool.false_and, Bool.not_true, Bool.not_false]; done) | simp [g9_4, g9_10, g9_16])) .nil) .nil)
   intro _
   refine .ret ?_
   exact fin0 (.inr rfl) (.one (svB (show ((((decide ((d.vars.length : Int) ≤ 5) && decide ((d.flags.length : Int) ≤ 3)) && decide ((d.arrays.length : Int) ≤ 2)) && d.arrays.all (fun x0 => inR x0.size 1 16))) = (Decl.ok d) by exact Decl.ok_right (j := j) (by omega) hI.2)) .nil) (.dd .nil) rfl
theorem c_isEnv (d : Decl) (e : Env) : Trip Tryz.prog 115 [(true, 3), (true, 3)] (Decl.c33 d ++ Env.c81 e) [(false, 1)] [.v (.bool (Env.okIn d e))] [] := by
 refine Trip.of Tryz.func115 (by decide) (c := _) rfl rfl (Nat.le_of_ble_eq_true rfl) rfl (AftOk.nil _) <| .sla (t := 0) 0 rfl rfl fun hs1l => .sla (t := 0) 1 rfl rfl fun hs2l => .sla (t := 0) 2 rfl rfl fun hs3l => .sla (t := 1) 1 rfl rfl fun hs4l => .sla (t := 1) 2 rfl rfl fun hs5l => .seq <| .rs fun k6 => .g (fun _ τ => ⟨_, .box (.no rfl) rfl rfl rfl rfl rfl τ⟩) ?_
 refine .g (fun _ τ => ⟨_, .box (.no rfl) rfl rfl rfl rfl rfl τ⟩) <| .as rfl <| .z <| .seq <| .seq <| .rs fun k7 => .fp t81 t4 rfl <| .ld t4 rfl (.ptr _ _ _ _ _ rfl) rfl <| .un rfl ?_
 refine .z ?_
 refine .cond (t := !e.live) rfl (fun c0 => ?_) (fun c0 => ?_)
 ·have c0 := (nT id) c0
  refine .seq ?_
  refine .reg (X := Unit) (fun ζ => .of [(4, .one (.d (.v (.bool (((e.ints.length : Int) == 0 && (e.arrs.length : Int) == 0))))))] []) [⟨[3], some 8, [], []⟩, ⟨[8], some 9, [[3]], []⟩, ⟨[9], some 10, [], []⟩, ⟨[10], some 11, [], []⟩, ⟨[11], some 12, [], []⟩, ⟨[12, 3], some 13, [], []⟩, ⟨[12, 13], some 14, [[3]], []⟩, ⟨[12, 14], some 15, [], []⟩, ⟨[12, 15], some 16, [], []⟩, ⟨[12, 16], some 17, [], []⟩, ⟨[17], some 4, [], []⟩] (fun k8 => ?_) ?_
  ·skip
   refine .fieldAddrP (.no rfl) rfl t81 rfl rfl t79 rfl rfl rfl rfl <| .load (.no rfl) rfl t79 rfl rfl (.ptr _ _ _ _ _ rfl) rfl rfl rfl rfl <| .len (.no rfl) rfl (z := (e.ints.length : Int)) t79 rfl rfl rfl (.d _ _) (map_len _ _) rfl <| .bin (.no rfl) rfl rfl rfl rfl rfl rfl <| .moveB (.no rfl) rfl rfl rfl rfl fun b9 g2_4 => ?_
   cases b9
   ·skip
    refine .off rfl rfl rfl rfl rfl rfl rfl <| .off rfl rfl rfl rfl rfl rfl rfl <| .off rfl rfl rfl rfl rfl rfl rfl <| .off rfl rfl rfl rfl rfl rfl rfl <| .pick (.no rfl) rfl rfl rfl rfl rfl <| .assign (.no rfl) rfl rfl rfl rfl ?_
    exact .fin () (.of (.cons (svB (show (false) = (((e.ints.length : Int) == 0 && (e.arrs.length : Int) == 0)) by first | (simp only [g2_4, Bool.true_or, Bool.false_or, Bool.true_and, Bool.false_and, Bool.not_true, Bool.not_false]; done) | simp [g2_4])) .nil) .nil)
   ·skip
    refine .fieldAddrP (.on rfl rfl rfl rfl rfl) rfl t81 rfl rfl t79 rfl rfl rfl rfl <| .load (.on rfl rfl rfl rfl rfl) rfl t79 rfl rfl (.ptr _ _ _ _ _ rfl) rfl rfl rfl rfl <| .len (.on rfl rfl rfl rfl rfl) rfl (z := (e.arrs.length : Int)) t79 rfl rfl rfl (.d _ _) (map_len _ _) rfl <| .bin (.on rfl rfl rfl rfl rfl) rfl rfl rfl rfl rfl rfl <| .pick (.no rfl) rfl rfl rfl rfl rfl <| .assign (.no rfl) rfl rfl rfl rfl ?_
    exact .fin () (.of (.cons (svB (show ((e.arrs.length : Int) == 0) = (((e.ints.length : Int) == 0 && (e.arrs.length : Int) == 0)) by first | (simp only [g2_4, Bool.true_or, Bool.false_or, Bool.true_and, Bool.false_and, Bool.not_true, Bool.not_false]; done) | simp [g2_4])) .nil) .nil)
  intro _
  refine .ret ?_
  exact fin0 (.inr rfl) (.one (svB (show (((e.ints.length : Int) == 0 && (e.arrs.length : Int) == 0)) = (Env.okIn d e) by simp [Env.okIn, c0, Bool.and_assoc])) .nil) (.dd .nil) rfl
 ·have c0 := (nF id) c0
  refine .skip <| .seq ?_
  refine .reg (X := Unit) (fun ζ => .of [(4, .one (.d (.v (.bool (((((e.ints.length : Int) == (d.vars.length : Int) && (e.arrs.length : Int) == (d.arrays.length : Int)) && e.ints.all (fun x0 => Iv.ok x0)) && e.arrs.all (fun x0 => Iv.ok x0)))))))] []) [⟨[3], some 18, [], []⟩, ⟨[18], some 19, [[3]], []⟩, ⟨[19], some 20, [], []⟩, ⟨[2], some 21, [], []⟩, ⟨[21], some 22, [[2]], []⟩, ⟨[22], some 23, [], []⟩, ⟨[20, 23], some 24, [], []⟩, ⟨[24], some 25, [], []⟩, ⟨[25, 3], some 26, [], []⟩, ⟨[25, 26], some 27, [[3]], []⟩, ⟨[25, 27], some 28, [], []⟩, ⟨[25, 2], some 29, [], []⟩, ⟨[25, 29], some 30, [[2]], []⟩, ⟨[25, 30], some 31, [], []⟩, ⟨[25, 28, 31], some 32, [], []⟩, ⟨[25, 32], some 33, [], []⟩, ⟨[33], some 34, [], []⟩, ⟨[34, 3], some 35, [], []⟩, ⟨[34, 35], some 36, [[3]], []⟩, ⟨[34, 36], some 37, [], []⟩, ⟨[34, 37], some 38, [], []⟩, ⟨[38], some 39, [], []⟩, ⟨[39, 3], some 40, [], []⟩, ⟨[39, 40], some 41, [[3]], []⟩, ⟨[39, 41], some 42, [], []⟩, ⟨[39, 42], some 43, [], []⟩, ⟨[43], some 4, [], []⟩] (fun k11 => ?_) ?_
  ·skip
   refine .fieldAddrP (.no rfl) rfl t81 rfl rfl t79 rfl rfl rfl rfl <| .load (.no rfl) rfl t79 rfl rfl (.ptr _ _ _ _ _ rfl) rfl rfl rfl rfl <| .len (.no rfl) rfl (z := (e.ints.length : Int)) t79 rfl rfl rfl (.d _ _) (map_len _ _) rfl <| .fieldAddrP (.no rfl) rfl t33 rfl rfl t22 rfl rfl rfl rfl <| .load (.no rfl) rfl t22 rfl rfl (.ptr _ _ _ _ _ rfl) rfl rfl rfl rfl <| .len (.no rfl) rfl (z := (d.vars.length : Int)) t22 rfl rfl rfl (.d _ _) (map_len _ _) rfl <| .bin (.no rfl) rfl rfl rfl rfl rfl rfl <| .moveB (.no rfl) rfl rfl rfl rfl fun b12 g3_7 => ?_
   cases b12
   ·skip
    refine .off rfl rfl rfl rfl rfl rfl rfl <| .off rfl rfl rfl rfl rfl rfl rfl <| .off rfl rfl rfl rfl rfl rfl rfl <| .off rfl rfl rfl rfl rfl rfl rfl <| .off rfl rfl rfl rfl rfl rfl rfl <| .off rfl rfl rfl rfl rfl rfl rfl <| .off rfl rfl rfl rfl rfl rfl rfl <| .pick (.no rfl) rfl rfl rfl rfl rfl <| .move (.no rfl) rfl rfl rfl rfl ?_
    refine .off rfl rfl rfl rfl rfl rfl rfl <| .off rfl rfl rfl rfl rfl rfl rfl <| .off rfl rfl rfl rfl rfl rfl rfl <| .pick (.no rfl) rfl rfl rfl rfl rfl <| .move (.no rfl) rfl rfl rfl rfl <| .off rfl rfl rfl rfl rfl rfl rfl <| .off rfl rfl rfl rfl rfl rfl rfl <| .off rfl rfl rfl rfl rfl rfl rfl <| .pick (.no rfl) rfl rfl rfl rfl rfl ?_
    refine .assign (.no rfl) rfl rfl rfl rfl ?_
    exact .fin () (.of (.cons (svB (show (false) = (((((e.ints.length : Int) == (d.vars.length : Int) && (e.arrs.length : Int) == (d.arrays.length : Int)) && e.ints.all (fun x0 => Iv.ok x0)) && e.arrs.all (fun x0 => Iv.ok x0))) by first | (simp only [g3_7, Bool.true_or, Bool.false_or, Bool.true_and, Bool.false_and, Bool.not_true, Bool.not_false]; done) | simp [g3_7])) .nil) .nil)
   ·skip
    refine .fieldAddrP (.on rfl rfl rfl rfl rfl) rfl t81 rfl rfl t79 rfl rfl rfl rfl <| .load (.on rfl rfl rfl rfl rfl) rfl t79 rfl rfl (.ptr _ _ _ _ _ rfl) rfl rfl rfl rfl <| .len (.on rfl rfl rfl rfl rfl) rfl (z := (e.arrs.length : Int)) t79 rfl rfl rfl (.d _ _) (map_len _ _) rfl <| .fieldAddrP (.on rfl rfl rfl rfl rfl) rfl t33 rfl rfl t31 rfl rfl rfl rfl <| .load (.on rfl rfl rfl rfl rfl) rfl t31 rfl rfl (.ptr _ _ _ _ _ rfl) rfl rfl rfl rfl <| .len (.on rfl rfl rfl rfl rfl) rfl (z := (d.arrays.length : Int)) t31 rfl rfl rfl (.d _ _) (map_len _ _) rfl <| .bin (.on rfl rfl rfl rfl rfl) rfl rfl rfl rfl rfl rfl <| .pick (.no rfl) rfl rfl rfl rfl rfl <| .moveB (.no rfl) rfl rfl rfl rfl fun b13 g3_16 => ?_
    cases b13
    ·skip
     refine .off rfl rfl rfl rfl rfl rfl rfl <| .off rfl rfl rfl rfl rfl rfl rfl <| .off rfl rfl rfl rfl rfl rfl rfl <| .pick (.no rfl) rfl rfl rfl rfl rfl <| .move (.no rfl) rfl rfl rfl rfl <| .off rfl rfl rfl rfl rfl rfl rfl <| .off rfl rfl rfl rfl rfl rfl rfl <| .off rfl rfl rfl rfl rfl rfl rfl <| .pick (.no rfl) rfl rfl rfl rfl rfl ?_
     refine .assign (.no rfl) rfl rfl rfl rfl ?_
     exact .fin () (.of (.cons (svB (show (false) = (((((e.ints.length : Int) == (d.vars.length : Int) && (e.arrs.length : Int) == (d.arrays.length : Int)) && e.ints.all (fun x0 => Iv.ok x0)) && e.arrs.all (fun x0 => Iv.ok x0))) by first | (simp only [g3_7, g3_16, Bool.true_or, Bool.false_or, Bool.true_and, Bool.false_and, Bool.not_true, Bool.not_false]; done) | simp [g3_7, g3_16])) .nil) .nil)
    ·skip
     refine .fieldAddrP (.on rfl rfl rfl rfl rfl) rfl t81 rfl rfl t79 rfl rfl rfl rfl <| .load (.on rfl rfl rfl rfl rfl) rfl t79 rfl rfl (.ptr _ _ _ _ _ rfl) rfl rfl rfl rfl <| .call (.on rfl rfl rfl rfl rfl) rfl [] [] (c_areAllI e.ints 118 [] [] (fun x0 => Iv.ok x0) (fun x0 => c_IvOk x0)) rfl rfl rfl rfl rfl (.dd (.dd .nil)) rfl rfl (fun h => absurd rfl h) (.own [37, 0] .nil) (.nil) rfl rfl rfl (by simp) rfl rfl rfl <| .pick (.no rfl) rfl rfl rfl rfl rfl <| .moveB (.no rfl) rfl rfl rfl rfl fun b14 g3_21 => ?_
     cases b14
     ·skip
      refine .off rfl rfl rfl rfl rfl rfl rfl <| .off rfl rfl rfl rfl rfl rfl rfl <| .off rfl rfl rfl rfl rfl rfl rfl <| .pick (.no rfl) rfl rfl rfl rfl rfl <| .assign (.no rfl) rfl rfl rfl rfl ?_
      exact .fin () (.of (.cons (svB (show (false) = (((((e.ints.length : Int) == (d.vars.length : Int) && (e.arrs.length : Int) == (d.arrays.length : Int)) && e.ints.all (fun x0 => Iv.ok x0)) && e.arrs.all (fun x0 => Iv.ok x0))) by first | (simp only [g3_7, g3_16, g3_21, Bool.true_or, Bool.false_or, Bool.true_and, Bool.false_and, Bool.not_true, Bool.not_false]; done) | simp [g3_7, g3_16, g3_21])) .nil) .nil)
     ·skip
      refine .fieldAddrP (.on rfl rfl rfl rfl rfl) rfl t81 rfl rfl t79 rfl rfl rfl rfl <| .load (.on rfl rfl rfl rfl rfl) rfl t79 rfl rfl (.ptr _ _ _ _ _ rfl) rfl rfl rfl rfl <| .call (.on rfl rfl rfl rfl rfl) rfl [] [] (c_areAllI e.arrs 118 [] [] (fun x0 => Iv.ok x0) (fun x0 => c_IvOk x0)) rfl rfl rfl rfl rfl (.dd (.dd .nil)) rfl rfl (fun h => absurd rfl h) (.own [42, 0] .nil) (.nil) rfl rfl rfl (by simp) rfl rfl rfl <| .pick (.no rfl) rfl rfl rfl rfl rfl <| .assign (.no rfl) rfl rfl rfl rfl ?_
      exact .fin () (.of (.cons (svB (show (e.arrs.all (fun x0 => Iv.ok x0)) = (((((e.ints.length : Int) == (d.vars.length : Int) && (e.arrs.length : Int) == (d.arrays.length : Int)) && e.ints.all (fun x0 => Iv.ok x0)) && e.arrs.all (fun x0 => Iv.ok x0))) by first | (simp only [g3_7, g3_16, g3_21, Bool.true_or, Bool.false_or, Bool.true_and, Bool.false_and, Bool.not_true, Bool.not_false]; done) | simp [g3_7, g3_16, g3_21])) .nil) .nil)
  intro _
  refine .ret ?_
  exact fin0 (.inr rfl) (.one (svB (show (((((e.ints.length : Int) == (d.vars.length : Int) && (e.arrs.length : Int) == (d.arrays.length : Int)) && e.ints.all (fun x0 => Iv.ok x0)) && e.arrs.all (fun x0 => Iv.ok x0))) = (Env.okIn d e) by simp [Env.okIn, c0, Bool.and_assoc])) .nil) (.dd .nil) rfl
end Go.Proofs

namespace Go.Proofs
open Go Go.Proofs Go.Ev

theorem c_CloneI (l : List Iv) (hb : l.length ≤ 2097152) : Trip Tryz.prog 151 [(false, 1)] ([.sl false 112 2 (List.map Iv.c (l))]) [(false, 1)] [.sl true 112 2 (List.map Iv.c (l))] [] := by
 refine Trip.of Tryz.func151 (by decide) (c := _) rfl rfl (Nat.le_of_ble_eq_true rfl) rfl (AftOk.nil _) <| .sl (t := 0) rfl fun hs1l => .seq <| .rs fun k2 => .as rfl <| .z <| .seq <| .seq ?_
 refine .nilEq t79 rfl rfl rfl rfl rfl rfl rfl rfl rfl rfl rfl (fun b3 hb3 => ?_)
 refine .cond (t := b3) rfl (fun c0 => ?_) (fun c0 => ?_)
 ·have c0 := c0
  refine .seq <| .rs fun k4 => .as rfl <| .z <| .ret ?_
  exact fin0 (.inr rfl) (.one rfl .nil) (.cons (Gives.nil' (by first | rfl | simp_all)) .nil) rfl
 ·have c0 := c0
  refine .skip <| .seq <| .rs fun k5 => .g (fun _ τ => ⟨_, .buildSlice (.no rfl) rfl (els := []) t79 rfl z112 rfl rfl rfl rfl rfl rfl rfl rfl (by simp [i112]) .nil rfl rfl rfl τ⟩) <| .mv rfl <| .g (fun _ τ => ⟨_, .append (.no rfl) rfl (l3 := List.map Iv.c (l)) t79 rfl z112 rfl rfl rfl rfl rfl rfl rfl rfl (.ref _ _ _ _ rfl) (.ro _ _) rfl (by simp [i112]; omega) (List.nil_append _) rfl rfl τ⟩) <| .as rfl <| .z <| .ret ?_
  exact fin1 (.inr rfl) [] [([5], (k5 + 1 + 1, k5 + 1 + 1, .row 112 2 (List.map Iv.c (l))))] (.one rfl .nil) (.cons (.ref (.head _)) .nil) rfl rfl (.r rfl)
theorem c_own (e : Env) (hb : e.ints.length ≤ 1048576 ∧ e.arrs.length ≤ 1048576) : Trip Tryz.prog 116 [(true, 3)] (Env.c81 e) [(true, 3)] [.v (.bool (e.live)), .sl true 112 2 (List.map Iv.c (e.ints)), .sl true 112 2 (List.map Iv.c (e.arrs))] [] := by
 refine Trip.of Tryz.func116 (by decide) (c := _) rfl rfl (Nat.le_of_ble_eq_true rfl) rfl (AftOk.nil _) <| .sla (t := 0) 1 rfl rfl fun hs1l => .sla (t := 0) 2 rfl rfl fun hs2l => .seq <| .rs fun k3 => .g (fun _ τ => ⟨_, .box (.no rfl) rfl rfl rfl rfl rfl τ⟩) <| .g (fun _ τ => ⟨_, .alloc (.no rfl) rfl z81 rfl rfl rfl τ⟩) <| .z <| .seq ?_
 refine .regD (X := Nat × Nat × Nat) (by kernel_rfl) (fun ζ => .of [(1, .one (.ptr [1] (k3) 0)), (2, .one (.ptr [2] (k3 + 1) 0))] [([1], (k3, ζ.1, .box [.d (.v (.bool (e.live))), .ref [5, 0] (ζ.2.1), .ref [8, 0] (ζ.2.2)])), ([2], (k3 + 1, k3 + 1, .box [.d (.v (.bool (false))), .d (.v (.slice none 0 0)), .d (.v (.slice none 0 0))])), ([5, 0], (ζ.2.1, ζ.2.1, .row 112 2 (List.map Iv.c (e.ints)))), ([8, 0], (ζ.2.2, ζ.2.2, .row 112 2 (List.map Iv.c (e.arrs))))]) [⟨[1], some 3, [], []⟩, ⟨[3], some 4, [[1]], []⟩, ⟨[4], some 5, [], [[5, 0]]⟩, ⟨[1], some 6, [], []⟩, ⟨[6], some 7, [[1]], []⟩, ⟨[7], some 8, [], [[8, 0]]⟩, ⟨[1], some 9, [], []⟩, ⟨[9, 5], none, [[1]], [[1]]⟩, ⟨[1], some 10, [], []⟩, ⟨[10, 8], none, [[1]], [[1]]⟩] (by kernel_rfl) (fun k4 => ?_) ?_
 ·skip
  refine .fieldAddrP (.no rfl) rfl t81 rfl rfl t79 rfl rfl rfl rfl <| .load (.no rfl) rfl t79 rfl rfl (.ptr _ _ _ _ _ rfl) rfl rfl rfl rfl <| .call (.no rfl) rfl [] [] (c_CloneI e.ints (by omega)) rfl rfl rfl rfl rfl (.dd .nil) rfl rfl (fun h => absurd rfl h) (.own [5, 0] .nil) (.nil) rfl rfl rfl (by simp) rfl rfl rfl <| .fieldAddrP (.no rfl) rfl t81 rfl rfl t79 rfl rfl rfl rfl <| .load (.no rfl) rfl t79 rfl rfl (.ptr _ _ _ _ _ rfl) rfl rfl rfl rfl <| .call (.no rfl) rfl [] [] (c_CloneI e.arrs (by omega)) rfl rfl rfl rfl rfl (.dd .nil) rfl rfl (fun h => absurd rfl h) (.own [8, 0] .nil) (.nil) rfl rfl rfl (by simp) rfl rfl rfl <| .fieldAddrP (.no rfl) rfl t81 rfl rfl t79 rfl rfl rfl rfl <| .store (.no rfl) rfl t79 rfl rfl rfl rfl rfl rfl rfl rfl rfl <| .fieldAddrP (.no rfl) rfl t81 rfl rfl t79 rfl rfl rfl rfl ?_
  refine .store (.no rfl) rfl t79 rfl rfl rfl rfl rfl rfl rfl rfl rfl ?_
  exact .fin (k4 + 1 + 1 + 1 + 1 + 1 + 1 + 1 + 1 + 1, k4 + 1 + 1, k4 + 1 + 1 + 1 + 1 + 1) (.of (.r rfl) (.r rfl))
 rintro ⟨g5, g6, g7⟩
 refine .seq <| .rs fun k8 => .lda t81 rfl (.ptr _ _ _ _ _ rfl) rfl <| .g (fun _ τ => ⟨_, .store (.no rfl) rfl t81 rfl rfl rfl rfl rfl rfl rfl rfl rfl τ⟩) <| .z <| .ret ?_
 exact fin1 (.inr rfl) [] [([5, 0], (g6, g6, .row 112 2 (List.map Iv.c (e.ints)))), ([8, 0], (g7, g7, .row 112 2 (List.map Iv.c (e.arrs))))] (.cell (cells := [.d (.v (.bool (e.live))), .ref [5, 0] (g6), .ref [8, 0] (g7)]) rfl rfl t81 rfl rfl .nil) (.dd (.cons (.ref (.head _)) (.cons (.ref (.tail _ (.head _))) .nil))) rfl rfl (.r rfl)
theorem c_joined (a : List Iv) (b : List Iv) (F_f : FuncId) (first_f : List (Bool × List D)) (caps_f : List D) (f : Iv → Iv → Iv) (h_f : ∀ (x0 : Iv) (x1 : Iv), FnTrip Tryz.prog F_f first_f caps_f [(true, 2), (true, 2)] (Iv.c x0 ++ Iv.c x1) [(true, 2)] [.v (.int .i64 ((f x0 x1).lo)), .v (.int .i64 ((f x0 x1).hi))]) (hl : a.length = b.length ∧ a.length ≤ 2097152) : Trip Tryz.prog 117 [(false, 1), (false, 1), (false, 1)] ([.sl false 112 2 (List.map Iv.c (a))] ++ [.sl false 112 2 (List.map Iv.c (b))] ++ [.fn F_f first_f caps_f]) [(false, 1)] [.sl true 112 2 (List.map Iv.c (zip2 f a b))] [] := by
 refine Trip.of Tryz.func117 (by decide) (c := _) rfl rfl (Nat.le_of_ble_eq_true rfl) rfl (AftOk.nil _) <| .sl (t := 0) rfl fun hs1l => .sl (t := 1) rfl fun hs2l => .seq <| .rs fun k3 => .as rfl <| .z <| .seq <| .rs fun k4 => ?_
 refine .as rfl <| .z <| .seq <| .seq <| .rs fun k5 => .mv rfl <| .g (fun _ τ => ⟨_, .len (.no rfl) rfl (z := (a.length : Int)) t79 rfl rfl rfl (.d _ _) (map_len _ _) rfl τ⟩) <| .mv rfl <| .z ?_
 refine .block ?_
 refine .loop (X := Nat × Nat × Nat) (fun ζ => .of [(1, .one (.d (.sl false 112 2 (List.map Iv.c (b))))), (2, .one (.d (.fn F_f first_f caps_f))), (7, .one (.ref [26] (ζ.2.1))), (10, .one (.d (.sl false 112 2 (List.map Iv.c (a))))), (11, .one (.d (.v (.int .i64 ((a.length : Int)))))), (12, .one (.d (.v (.int .i64 ((ζ.1 : Int))))))] [([26], (ζ.2.1, ζ.2.2, .row 112 2 (List.map Iv.c (zip2To f a b ζ.1))))]) (fun ζ => ζ.1 ≤ a.length) (fun ζ => a.length - ζ.1) ?_ ?_
 ·skip
  refine .nilRow 7 [26] 112 2 rfl fun k8 => ?_
  exact .here (0, k8, k8) (.of (.cons rfl (.cons rfl (.cons rfl (.cons rfl (.cons rfl (.cons (svI (show (0) = ((0 : Int)) by first | rfl | omega | exact wrap_le (by omega) (by omega) | (rw [wrap_le (by omega) (by omega)]; omega))) .nil)))))) (.cons (rowE (show [] = List.map Iv.c (zip2To f a b 0) by first | rfl | exact congrArg _ (zip2To_step _ _ _ _))) .nil)) (show 0 ≤ a.length by omega)
 ·rintro ⟨j, q6, q7⟩ hI
  have hI : j ≤ a.length := hI
  dsimp only
  refine .seq <| .rs fun k9 => .bi rfl <| .z <| .seq ?_
  refine .cond (t := decide ((j : Int) < (a.length : Int))) rfl (fun c0 => ?_) (fun c0 => ?_)
  ·have c0 := of_decide_eq_true c0
   refine .skip <| .seq <| .block <| .seq <| .rs fun k10 => .mv rfl <| .g (fun _ τ => ⟨_, .indexAddr (.no rfl) rfl (j) t79 rfl t112 rfl rfl rfl (.d _ _) rfl rfl rfl (map_get (by omega)) rfl rfl τ⟩) <| .lda t112 rfl (.d _) rfl <| .g (fun _ τ => ⟨_, .alloc (.no rfl) rfl z112 rfl rfl rfl τ⟩) ?_
   refine .as rfl <| .g (fun _ τ => ⟨_, .store (.no rfl) rfl t112 rfl rfl rfl rfl rfl rfl rfl rfl rfl τ⟩) <| .z ?_
   refine .regD (X := Nat) (by kernel_rfl) (fun ζ => .of [(1, .one (.d (.sl false 112 2 (List.map Iv.c (b))))), (2, .one (.d (.fn F_f first_f caps_f))), (7, .one (.ref [26] (ζ))), (10, .one (.d (.sl false 112 2 (List.map Iv.c (a))))), (11, .one (.d (.v (.int .i64 ((a.length : Int)))))), (12, .one (.d (.v (.int .i64 ((j : Int))))))] [([26], (ζ, ζ, .row 112 2 (List.map Iv.c (zip2To f a b j ++ [(f (a.getD j default) (b.getD j default))]))))]) [⟨[7], some 17, [], []⟩, ⟨[2], some 18, [], []⟩, ⟨[9], some 19, [[9]], []⟩, ⟨[1], some 20, [], []⟩, ⟨[8], some 21, [], []⟩, ⟨[20, 21], some 22, [], []⟩, ⟨[22], some 23, [], []⟩, ⟨[18, 19, 23], some 24, [], []⟩, ⟨[24], some 25, [], [[25]]⟩, ⟨[17, 25], some 26, [[26], [25]], [[25], [26]]⟩, ⟨[26], some 7, [], []⟩] (by kernel_rfl) (fun k11 => ?_) ?_
   ·skip
    refine .move (.no rfl) rfl rfl rfl rfl <| .move (.no rfl) rfl rfl rfl rfl <| .load (.no rfl) rfl t112 rfl rfl (.ptr _ _ _ _ _ rfl) rfl rfl rfl rfl <| .move (.no rfl) rfl rfl rfl rfl <| .move (.no rfl) rfl rfl rfl rfl <| .indexAddr (.no rfl) rfl (j) t79 rfl t112 rfl rfl rfl (.d _ _) rfl rfl rfl (map_get (by omega)) rfl rfl <| .load (.no rfl) rfl t112 rfl rfl (.d _) rfl rfl rfl rfl <| .callF (.no rfl) rfl (ds := [.v (.int .i64 ((a.getD j default).lo)), .v (.int .i64 ((a.getD j default).hi)), .v (.int .i64 ((b.getD j default).lo)), .v (.int .i64 ((b.getD j default).hi))]) (h_f (a.getD j default) (b.getD j default)) rfl rfl rfl rfl (.own [24, 0] (.own [24, 1] .nil)) rfl rfl rfl rfl rfl rfl ?_
    refine .buildSlice (.no rfl) rfl (els := [[.v (.int .i64 ((f (a.getD j default) (b.getD j default)).lo)), .v (.int .i64 ((f (a.getD j default) (b.getD j default)).hi))]]) t79 rfl z112 rfl rfl rfl rfl rfl rfl rfl rfl (by simp [i112]) (.cons _ _ _ _ _ _ (.d _) (.cons _ _ _ _ _ _ (.d _) .nil)) rfl rfl rfl <| .append (.no rfl) rfl (l3 := List.map Iv.c (zip2To f a b j ++ [(f (a.getD j default) (b.getD j default))])) t79 rfl z112 rfl rfl rfl rfl rfl rfl rfl rfl (.ref _ _ _ _ rfl) (.take _ _ _ _ _ rfl) rfl (by simp only [List.length_map, zip2To_len, i112]; simp; omega) (map_snoc _ _ _) rfl rfl <| .assign (.no rfl) rfl rfl rfl rfl ?_
    exact .fin (k11 + 1 + 1 + 1 + 1 + 1 + 1 + 1 + 1 + 1) (.of (.r rfl) (.r rfl))
   intro g12
   refine .rs fun k13 => .bi rfl <| .mv rfl <| .z ?_
   exact .here ((j + 1), g12, g12) (.of (.cons rfl (.cons rfl (.cons rfl (.cons rfl (.cons rfl (.cons (svI (show (IntKind.wrap .i64 ((j : Int) + 1)) = (((j + 1) : Int)) by first | rfl | omega | exact wrap_le (by omega) (by omega) | (rw [wrap_le (by omega) (by omega)]; omega))) .nil)))))) (.cons (rowE (show List.map Iv.c (zip2To f a b j ++ [(f (a.getD j default) (b.getD j default))]) = List.map Iv.c (zip2To f a b (j + 1)) by first | rfl | exact congrArg _ (zip2To_step _ _ _ _))) .nil)) ⟨(show (j + 1) ≤ a.length by omega), (show a.length - (j + 1) < a.length - j by omega)⟩
  ·have c0 := of_decide_eq_false c0
   refine .exit <| .seq <| .rs fun k14 => .mv rfl <| .as rfl <| .z <| .ret ?_
   have e15 : (zip2To f a b j) = (zip2 f a b) := by exact zip2To_all _ hI (by omega)
   exact fin1 (.inr rfl) [] [([26], (q6, q7, .row 112 2 (List.map Iv.c (zip2 f a b))))] (.one rfl .nil) (.cons (.ref (.head _)) .nil) rfl rfl (.cons (rowE (congrArg (List.map Iv.c) e15)) .nil)
theorem c_with (e : Env) (b : Env) (F_f : FuncId) (first_f : List (Bool × List D)) (caps_f : List D) (f : Iv → Iv → Iv) (h_f : ∀ (x0 : Iv) (x1 : Iv), FnTrip Tryz.prog F_f first_f caps_f [(true, 2), (true, 2)] (Iv.c x0 ++ Iv.c x1) [(true, 2)] [.v (.int .i64 ((f x0 x1).lo)), .v (.int .i64 ((f x0 x1).hi))]) (hj : e.live = true → b.live = true → e.ints.length = b.ints.length ∧ e.arrs.length = b.arrs.length) (hb : e.ints.length ≤ 1048576 ∧ e.arrs.length ≤ 1048576 ∧ b.ints.length ≤ 1048576 ∧ b.arrs.length ≤ 1048576) : Trip Tryz.prog 80 [(true, 3), (true, 3), (false, 1)] (Env.c81 e ++ Env.c81 b ++ [.fn F_f first_f caps_f]) [(true, 3)] [.v (.bool ((Env.joinW f e b).live)), .sl true 112 2 (List.map Iv.c ((Env.joinW f e b).ints)), .sl true 112 2 (List.map Iv.c ((Env.joinW f e b).arrs))] [] := by
 refine Trip.of Tryz.func80 (by decide) (c := _) rfl rfl (Nat.le_of_ble_eq_true rfl) rfl (AftOk.nil _) <| .sla (t := 0) 1 rfl rfl fun hs1l => .sla (t := 0) 2 rfl rfl fun hs2l => .sla (t := 1) 1 rfl rfl fun hs3l => .sla (t := 1) 2 rfl rfl fun hs4l => .seq <| .rs fun k5 => .g (fun _ τ => ⟨_, .box (.no rfl) rfl rfl rfl rfl rfl τ⟩) <| .g (fun _ τ => ⟨_, .box (.no rfl) rfl rfl rfl rfl rfl τ⟩) ?_
 refine .g (fun _ τ => ⟨_, .alloc (.no rfl) rfl z81 rfl rfl rfl τ⟩) <| .z <| .seq <| .block <| .seq <| .rs fun k6 => .fp t81 t4 rfl <| .ld t4 rfl (.ptr _ _ _ _ _ rfl) rfl <| .un rfl ?_
 refine .as rfl <| .z ?_
 refine .cond (t := !e.live) rfl (fun c0 => ?_) (fun c0 => ?_)
 ·have c0 := (nT id) c0
  refine .seq <| .rs fun k7 => .lda t81 rfl (.ptr _ _ _ _ _ rfl) rfl <| .c0 (c_own b (by first | omega | (have hj9 := hj c0 c1; omega))) rfl (.dd (.dd (.dd .nil))) (.own [12, 0] (.own [12, 1] (.own [12, 2] .nil))) rfl <| .g (fun _ τ => ⟨_, .store (.no rfl) rfl t81 rfl rfl rfl rfl rfl rfl rfl rfl rfl τ⟩) <| .z <| .ret ?_
  have e8 : (b.live) = ((Env.joinW f e b).live) := by simp [Env.joinW, c0]
  have e9 : (b.ints) = ((Env.joinW f e b).ints) := by simp [Env.joinW, c0]
  have e10 : (b.arrs) = ((Env.joinW f e b).arrs) := by simp [Env.joinW, c0]
  have hc11 := eq1 (fun z1 => some (k5 + 1 + 1, k7 + 1 + 1, O.box [.d (.v (.bool (z1))), .ref [12, 1] (k7 + 1), .ref [12, 2] (k7 + 1)])) e8
  exact fin1 (.inr rfl) [] [([12, 1], (k7 + 1, k7 + 1, .row 112 2 (List.map Iv.c ((Env.joinW f e b).ints)))), ([12, 2], (k7 + 1, k7 + 1, .row 112 2 (List.map Iv.c ((Env.joinW f e b).arrs))))] (.cell (cells := [.d (.v (.bool ((Env.joinW f e b).live))), .ref [12, 1] (k7 + 1), .ref [12, 2] (k7 + 1)]) rfl hc11 t81 rfl rfl .nil) (.dd (.cons (.ref (.head _)) (.cons (.ref (.tail _ (.head _))) .nil))) rfl rfl (.cons (rowE (congrArg (List.map Iv.c) e9)) (.cons (rowE (congrArg (List.map Iv.c) e10)) .nil))
 ·have c0 := (nF id) c0
  refine .seq <| .rs fun k12 => .fp t81 t4 rfl <| .ld t4 rfl (.ptr _ _ _ _ _ rfl) rfl <| .un rfl <| .as rfl <| .z ?_
  refine .cond (t := !b.live) rfl (fun c1 => ?_) (fun c1 => ?_)
  ·have c1 := (nT id) c1
   refine .seq <| .rs fun k13 => .lda t81 rfl (.ptr _ _ _ _ _ rfl) rfl <| .c0 (c_own e (by first | omega | (have hj9 := hj c0 c1; omega))) rfl (.dd (.dd (.dd .nil))) (.own [18, 0] (.own [18, 1] (.own [18, 2] .nil))) rfl <| .g (fun _ τ => ⟨_, .store (.no rfl) rfl t81 rfl rfl rfl rfl rfl rfl rfl rfl rfl τ⟩) <| .z <| .ret ?_
   have e14 : (e.live) = ((Env.joinW f e b).live) := by simp [Env.joinW, c0, c1]
   have e15 : (e.ints) = ((Env.joinW f e b).ints) := by simp [Env.joinW, c0, c1]
   have e16 : (e.arrs) = ((Env.joinW f e b).arrs) := by simp [Env.joinW, c0, c1]
   have hc17 := eq1 (fun z1 => some (k5 + 1 + 1, k13 + 1 + 1, O.box [.d (.v (.bool (z1))), .ref [18, 1] (k13 + 1), .ref [18, 2] (k13 + 1)])) e14
   exact fin1 (.inr rfl) [] [([18, 1], (k13 + 1, k13 + 1, .row 112 2 (List.map Iv.c ((Env.joinW f e b).ints)))), ([18, 2], (k13 + 1, k13 + 1, .row 112 2 (List.map Iv.c ((Env.joinW f e b).arrs))))] (.cell (cells := [.d (.v (.bool ((Env.joinW f e b).live))), .ref [18, 1] (k13 + 1), .ref [18, 2] (k13 + 1)]) rfl hc17 t81 rfl rfl .nil) (.dd (.cons (.ref (.head _)) (.cons (.ref (.tail _ (.head _))) .nil))) rfl rfl (.cons (rowE (congrArg (List.map Iv.c) e15)) (.cons (rowE (congrArg (List.map Iv.c) e16)) .nil))
  ·have c1 := (nF id) c1
   refine .skip <| .seq ?_
   refine .regD (X := Nat × Nat × Nat) (by kernel_rfl) (fun ζ => .of [(6, .one (.ptr [6] (k5 + 1 + 1) 0))] [([6], (k5 + 1 + 1, ζ.1, .box [.d (.v (.bool (true))), .ref [24, 0] (ζ.2.1), .ref [30, 0] (ζ.2.2)])), ([24, 0], (ζ.2.1, ζ.2.1, .row 112 2 (List.map Iv.c (zip2 f e.ints b.ints)))), ([30, 0], (ζ.2.2, ζ.2.2, .row 112 2 (List.map Iv.c (zip2 f e.arrs b.arrs))))]) [⟨[3], some 19, [], []⟩, ⟨[19], some 20, [[3]], []⟩, ⟨[4], some 21, [], []⟩, ⟨[21], some 22, [[4]], []⟩, ⟨[2], some 23, [], []⟩, ⟨[20, 22, 23], some 24, [], [[24, 0]]⟩, ⟨[3], some 25, [], []⟩, ⟨[25], some 26, [[3]], []⟩, ⟨[4], some 27, [], []⟩, ⟨[27], some 28, [[4]], []⟩, ⟨[2], some 29, [], []⟩, ⟨[26, 28, 29], some 30, [], [[30, 0]]⟩, ⟨[24, 30], some 31, [], []⟩, ⟨[6, 31], none, [[6]], [[6]]⟩] (by kernel_rfl) (fun k18 => ?_) ?_
   ·skip
    refine .fieldAddrP (.no rfl) rfl t81 rfl rfl t79 rfl rfl rfl rfl <| .load (.no rfl) rfl t79 rfl rfl (.ptr _ _ _ _ _ rfl) rfl rfl rfl rfl <| .fieldAddrP (.no rfl) rfl t81 rfl rfl t79 rfl rfl rfl rfl <| .load (.no rfl) rfl t79 rfl rfl (.ptr _ _ _ _ _ rfl) rfl rfl rfl rfl <| .move (.no rfl) rfl rfl rfl rfl <| .call (.no rfl) rfl [] [] (c_joined e.ints b.ints F_f first_f caps_f f h_f (by first | omega | (have hj9 := hj c0 c1; omega))) rfl rfl rfl rfl rfl (.dd (.dd (.dd .nil))) rfl rfl (fun h => absurd rfl h) (.own [24, 0] .nil) (.nil) rfl rfl rfl (by simp) rfl rfl rfl <| .fieldAddrP (.no rfl) rfl t81 rfl rfl t79 rfl rfl rfl rfl <| .load (.no rfl) rfl t79 rfl rfl (.ptr _ _ _ _ _ rfl) rfl rfl rfl rfl <| .fieldAddrP (.no rfl) rfl t81 rfl rfl t79 rfl rfl rfl rfl ?_
    refine .load (.no rfl) rfl t79 rfl rfl (.ptr _ _ _ _ _ rfl) rfl rfl rfl rfl <| .move (.no rfl) rfl rfl rfl rfl <| .call (.no rfl) rfl [] [] (c_joined e.arrs b.arrs F_f first_f caps_f f h_f (by first | omega | (have hj9 := hj c0 c1; omega))) rfl rfl rfl rfl rfl (.dd (.dd (.dd .nil))) rfl rfl (fun h => absurd rfl h) (.own [30, 0] .nil) (.nil) rfl rfl rfl (by simp) rfl rfl rfl <| .build (.no rfl) rfl z81 rfl p81 rfl rfl rfl rfl <| .store (.no rfl) rfl t81 rfl rfl rfl rfl rfl rfl rfl rfl rfl ?_
    exact .fin (k18 + 1 + 1 + 1 + 1 + 1 + 1 + 1 + 1 + 1 + 1 + 1 + 1 + 1, k18 + 1 + 1 + 1 + 1 + 1, k18 + 1 + 1 + 1 + 1 + 1 + 1 + 1 + 1 + 1 + 1 + 1) (.of (.r rfl) (.r rfl))
   rintro ⟨g19, g20, g21⟩
   refine .ret ?_
   have e22 : (true) = ((Env.joinW f e b).live) := by simp [Env.joinW, c0, c1]
   have e23 : (zip2 f e.ints b.ints) = ((Env.joinW f e b).ints) := by simp [Env.joinW, c0, c1]
   have e24 : (zip2 f e.arrs b.arrs) = ((Env.joinW f e b).arrs) := by simp [Env.joinW, c0, c1]
   have hc25 := eq1 (fun z1 => some (k5 + 1 + 1, g19, O.box [.d (.v (.bool (z1))), .ref [24, 0] (g20), .ref [30, 0] (g21)])) e22
   exact fin1 (.inr rfl) [] [([24, 0], (g20, g20, .row 112 2 (List.map Iv.c ((Env.joinW f e b).ints)))), ([30, 0], (g21, g21, .row 112 2 (List.map Iv.c ((Env.joinW f e b).arrs))))] (.cell (cells := [.d (.v (.bool ((Env.joinW f e b).live))), .ref [24, 0] (g20), .ref [30, 0] (g21)]) rfl hc25 t81 rfl rfl .nil) (.dd (.cons (.ref (.head _)) (.cons (.ref (.tail _ (.head _))) .nil))) rfl rfl (.cons (rowE (congrArg (List.map Iv.c) e23)) (.cons (rowE (congrArg (List.map Iv.c) e24)) .nil))
theorem c_areIvs (a : Iv) (b : Iv) : Trip Tryz.prog 81 [(true, 2), (true, 2)] (Iv.c a ++ Iv.c b) [(false, 1)] [.v (.bool (Iv.ok a && Iv.ok b))] [] := by
 refine Trip.of Tryz.func81 (by decide) (c := _) rfl rfl (Nat.le_of_ble_eq_true rfl) rfl (AftOk.nil _) <| .seq <| .rs fun k1 => .g (fun _ τ => ⟨_, .box (.no rfl) rfl rfl rfl rfl rfl τ⟩) <| .g (fun _ τ => ⟨_, .box (.no rfl) rfl rfl rfl rfl rfl τ⟩) <| .as rfl <| .z <| .seq ?_
 refine .reg (X := Unit) (fun ζ => .of [(4, .one (.d (.v (.bool ((Iv.ok a && Iv.ok b))))))] []) [⟨[2], some 5, [[2]], []⟩, ⟨[5], some 6, [], []⟩, ⟨[6], some 7, [], []⟩, ⟨[7, 3], some 8, [[3]], []⟩, ⟨[7, 8], some 9, [], []⟩, ⟨[7, 9], some 10, [], []⟩, ⟨[10], some 4, [], []⟩] (fun k2 => ?_) ?_
 ·skip
  refine .load (.no rfl) rfl t112 rfl rfl (.ptr _ _ _ _ _ rfl) rfl rfl rfl rfl <| .call (.no rfl) rfl [] [] (c_IvOk a) rfl rfl rfl rfl rfl (.dd (.dd .nil)) rfl rfl (fun h => absurd rfl h) (.own [6, 0] .nil) (.nil) rfl rfl rfl (by simp) rfl rfl rfl <| .moveB (.no rfl) rfl rfl rfl rfl fun b3 g1_2 => ?_
  cases b3
  ·skip
   refine .off rfl rfl rfl rfl rfl rfl rfl <| .off rfl rfl rfl rfl rfl rfl rfl <| .pick (.no rfl) rfl rfl rfl rfl rfl <| .assign (.no rfl) rfl rfl rfl rfl ?_
   exact .fin () (.of (.cons (svB (show (false) = ((Iv.ok a && Iv.ok b)) by first | (simp only [g1_2, Bool.true_or, Bool.false_or, Bool.true_and, Bool.false_and, Bool.not_true, Bool.not_false]; done) | simp [g1_2])) .nil) .nil)
  ·skip
   refine .load (.on rfl rfl rfl rfl rfl) rfl t112 rfl rfl (.ptr _ _ _ _ _ rfl) rfl rfl rfl rfl <| .call (.on rfl rfl rfl rfl rfl) rfl [] [] (c_IvOk b) rfl rfl rfl rfl rfl (.dd (.dd .nil)) rfl rfl (fun h => absurd rfl h) (.own [9, 0] .nil) (.nil) rfl rfl rfl (by simp) rfl rfl rfl <| .pick (.no rfl) rfl rfl rfl rfl rfl <| .assign (.no rfl) rfl rfl rfl rfl ?_
   exact .fin () (.of (.cons (svB (show (Iv.ok b) = ((Iv.ok a && Iv.ok b)) by first | (simp only [g1_2, Bool.true_or, Bool.false_or, Bool.true_and, Bool.false_and, Bool.not_true, Bool.not_false]; done) | simp [g1_2])) .nil) .nil)
 intro _
 refine .ret ?_
 exact fin0 (.inr rfl) (.one (svB (show ((Iv.ok a && Iv.ok b)) = (Iv.ok a && Iv.ok b) by rfl)) .nil) (.dd .nil) rfl
theorem c_IvJoin (a : Iv) (b : Iv) : Trip Tryz.prog 50 [(true, 2), (true, 2)] (Iv.c a ++ Iv.c b) [(true, 2)] [.v (.int .i64 ((Iv.joinOk a b).lo)), .v (.int .i64 ((Iv.joinOk a b).hi))] [] := by
 refine Trip.of Tryz.func50 (by decide) (c := _) rfl rfl (Nat.le_of_ble_eq_true rfl) rfl (AftOk.nil _) <| .seq <| .rs fun k1 => .g (fun _ τ => ⟨_, .box (.no rfl) rfl rfl rfl rfl rfl τ⟩) <| .g (fun _ τ => ⟨_, .box (.no rfl) rfl rfl rfl rfl rfl τ⟩) <| .g (fun _ τ => ⟨_, .alloc (.no rfl) rfl z112 rfl rfl rfl τ⟩) <| .z <| .seq <| .seq ?_
 refine .rs fun k2 => .lda t112 rfl (.ptr _ _ _ _ _ rfl) rfl <| .lda t112 rfl (.ptr _ _ _ _ _ rfl) rfl <| .c0 (c_areIvs a b) rfl (.dd (.dd (.dd (.dd .nil)))) (.own [7, 0] .nil) rfl <| .un rfl <| .z ?_
 refine .cond (t := !(Iv.ok a && Iv.ok b)) rfl (fun c0 => ?_) (fun c0 => ?_)
 ·have c0 := (nT (aF id id)) c0
  refine .seq <| .rs fun k3 => .g (fun _ τ => ⟨_, .build (.no rfl) rfl z112 rfl p112 rfl rfl rfl rfl τ⟩) <| .g (fun _ τ => ⟨_, .store (.no rfl) rfl t112 rfl rfl rfl rfl rfl rfl rfl rfl rfl τ⟩) <| .z <| .ret ?_
  have e4 : (0) = ((Iv.joinOk a b).lo) := by (rw [Iv.joinOk_no c0])
  have e5 : (0) = ((Iv.joinOk a b).hi) := by (rw [Iv.joinOk_no c0])
  have hc6 := eq2 (fun z1 z2 => some (k1 + 1 + 1, k3 + 1, O.box [.d (.v (.int .i64 (z1))), .d (.v (.int .i64 (z2)))])) e4 e5
  exact fin0 (.inr rfl) (.cell (cells := [.d (.v (.int .i64 ((Iv.joinOk a b).lo))), .d (.v (.int .i64 ((Iv.joinOk a b).hi)))]) rfl hc6 t112 rfl rfl .nil) (.dd (.dd .nil)) rfl
 ·have c0 := (nF (aT id id)) c0
  refine .skip <| .seq <| .rs fun k7 => .fp t112 t2 rfl <| .ld t2 rfl (.ptr _ _ _ _ _ rfl) rfl <| .fp t112 t2 rfl <| .ld t2 rfl (.ptr _ _ _ _ _ rfl) rfl <| .g (fun _ τ => ⟨_, .min (.no rfl) rfl rfl rfl rfl (min_of _ _) rfl τ⟩) <| .fp t112 t2 rfl ?_
  refine .ld t2 rfl (.ptr _ _ _ _ _ rfl) rfl <| .fp t112 t2 rfl <| .ld t2 rfl (.ptr _ _ _ _ _ rfl) rfl <| .g (fun _ τ => ⟨_, .max (.no rfl) rfl rfl rfl rfl (max_of _ _) rfl τ⟩) <| .g (fun _ τ => ⟨_, .build (.no rfl) rfl z112 rfl p112 rfl rfl rfl rfl τ⟩) <| .g (fun _ τ => ⟨_, .store (.no rfl) rfl t112 rfl rfl rfl rfl rfl rfl rfl rfl rfl τ⟩) <| .z <| .ret ?_
  have e8 : (min a.lo b.lo) = ((Iv.joinOk a b).lo) := by (rw [Iv.joinOk_yes c0]; rfl)
  have e9 : (max a.hi b.hi) = ((Iv.joinOk a b).hi) := by (rw [Iv.joinOk_yes c0]; rfl)
  have hc10 := eq2 (fun z1 z2 => some (k1 + 1 + 1, k7 + 1 + 1 + 1 + 1 + 1 + 1 + 1 + 1 + 1 + 1 + 1, O.box [.d (.v (.int .i64 (z1))), .d (.v (.int .i64 (z2)))])) e8 e9
  exact fin0 (.inr rfl) (.cell (cells := [.d (.v (.int .i64 ((Iv.joinOk a b).lo))), .d (.v (.int .i64 ((Iv.joinOk a b).hi)))]) rfl hc10 t112 rfl rfl .nil) (.dd (.dd .nil)) rfl
end Go.Proofs

namespace Go.Proofs
open Go Go.Proofs Go.Ev

def i64c (x : Int) : List D := [.v (.int .i64 x)]
theorem i64c_e (x : Int) : (i64c x).map D.erase = i64c x := by simp [i64c, D.erase_v]
theorem i64c_o (x : Int) : ∀ d ∈ i64c x, Owned d := by simp [i64c, Owned.v]
def i120 : TI := ⟨.sl 2, 1, 24, [.slice none 0 0]⟩
theorem t120 : TyOk Tryz.prog 120 i120 := ⟨Tryz.underlying120, by kernel_rfl⟩
theorem z120 : ZOk Tryz.prog 120 i120 := ⟨t120, rfl⟩
theorem c_sIvWiden (a : Iv) (b : Iv) (l : List Int) : Trip Tryz.prog 154 [(true, 2), (true, 2), (false, 1)] (Iv.c a ++ Iv.c b ++ [.sl false 2 1 (List.map i64c (l))]) [(true, 2)] [.v (.int .i64 ((Iv.widenOk l a b).lo)), .v (.int .i64 ((Iv.widenOk l a b).hi))] [] := by
 refine Trip.of Tryz.func154 (by decide) (c := _) rfl rfl (Nat.le_of_ble_eq_true rfl) rfl (AftOk.nil _) <| .sl (t := 2) rfl fun hs1l => .seq <| .rs fun k2 => .g (fun _ τ => ⟨_, .box (.no rfl) rfl rfl rfl rfl rfl τ⟩) <| .g (fun _ τ => ⟨_, .box (.no rfl) rfl rfl rfl rfl rfl τ⟩) <| .g (fun _ τ => ⟨_, .alloc (.no rfl) rfl z112 rfl rfl rfl τ⟩) <| .z <| .seq ?_
 refine .seq ?_
 refine .reg (X := Unit) (fun ζ => .of [(2, .one (.d (.sl false 2 1 (List.map i64c (l))))), (3, .one (.ptr [3] (k2) 0)), (4, .one (.ptr [4] (k2 + 1) 0)), (6, .one (.ptr [6] (k2 + 1 + 1) 0)), (22, .one (.d (.v (.bool (((!(Iv.ok a) || !(Iv.ok b)) || decide ((l.length : Int) > 100)))))))] [([3], (k2, k2, .box [.d (.v (.int .i64 (a.lo))), .d (.v (.int .i64 (a.hi)))])), ([4], (k2 + 1, k2 + 1, .box [.d (.v (.int .i64 (b.lo))), .d (.v (.int .i64 (b.hi)))])), ([6], (k2 + 1 + 1, k2 + 1 + 1, .box [.d (.v (.int .i64 (0))), .d (.v (.int .i64 (0)))]))]) [⟨[3], some 10, [[3]], []⟩, ⟨[10], some 11, [], []⟩, ⟨[11], some 12, [], []⟩, ⟨[12], some 13, [], []⟩, ⟨[13, 4], some 14, [[4]], []⟩, ⟨[13, 14], some 15, [], []⟩, ⟨[13, 15], some 16, [], []⟩, ⟨[13, 16], some 17, [], []⟩, ⟨[17], some 18, [], []⟩, ⟨[18, 2], some 19, [], []⟩, ⟨[18, 19], some 20, [], []⟩, ⟨[18, 20], some 21, [], []⟩, ⟨[18, 21], some 22, [], []⟩] (fun k3 => ?_) ?_
 ·skip
  refine .load (.no rfl) rfl t112 rfl rfl (.ptr _ _ _ _ _ rfl) rfl rfl rfl rfl <| .call (.no rfl) rfl [] [] (c_sIvOk a) rfl rfl rfl rfl rfl (.dd (.dd .nil)) rfl rfl (fun h => absurd rfl h) (.own [11, 0] .nil) (.nil) rfl rfl rfl (by simp) rfl rfl rfl <| .un (.no rfl) rfl rfl rfl rfl rfl <| .moveB (.no rfl) rfl rfl rfl rfl fun b4 g1_3 => ?_
  cases b4
  ·skip
   refine .load (.on rfl rfl rfl rfl rfl) rfl t112 rfl rfl (.ptr _ _ _ _ _ rfl) rfl rfl rfl rfl <| .call (.on rfl rfl rfl rfl rfl) rfl [] [] (c_sIvOk b) rfl rfl rfl rfl rfl (.dd (.dd .nil)) rfl rfl (fun h => absurd rfl h) (.own [15, 0] .nil) (.nil) rfl rfl rfl (by simp) rfl rfl rfl <| .un (.on rfl rfl rfl rfl rfl) rfl rfl rfl rfl rfl <| .pick (.no rfl) rfl rfl rfl rfl rfl <| .moveB (.no rfl) rfl rfl rfl rfl fun b5 g1_8 => ?_
   cases b5
   ·skip
    refine .move (.on rfl rfl rfl rfl rfl) rfl rfl rfl rfl <| .len (.on rfl rfl rfl rfl rfl) rfl (z := (l.length : Int)) t120 rfl rfl rfl (.d _ _) (map_len _ _) rfl <| .bin (.on rfl rfl rfl rfl rfl) rfl rfl rfl rfl rfl rfl <| .pick (.no rfl) rfl rfl rfl rfl rfl ?_
    exact .fin () (.of (.cons rfl (.cons rfl (.cons rfl (.cons rfl (.cons (svB (show (decide ((l.length : Int) > 100)) = (((!(Iv.ok a) || !(Iv.ok b)) || decide ((l.length : Int) > 100))) by first | (simp only [g1_3, g1_8, Bool.true_or, Bool.false_or, Bool.true_and, Bool.false_and, Bool.not_true, Bool.not_false]; done) | simp [g1_3, g1_8])) .nil))))) (.r rfl))
   ·skip
    refine .off rfl rfl rfl rfl rfl rfl rfl <| .off rfl rfl rfl rfl rfl rfl rfl <| .off rfl rfl rfl rfl rfl rfl rfl <| .pick (.no rfl) rfl rfl rfl rfl rfl ?_
    exact .fin () (.of (.cons rfl (.cons rfl (.cons rfl (.cons rfl (.cons (svB (show (true) = (((!(Iv.ok a) || !(Iv.ok b)) || decide ((l.length : Int) > 100))) by first | (simp only [g1_3, g1_8, Bool.true_or, Bool.false_or, Bool.true_and, Bool.false_and, Bool.not_true, Bool.not_false]; done) | simp [g1_3, g1_8])) .nil))))) (.r rfl))
  ·skip
   refine .off rfl rfl rfl rfl rfl rfl rfl <| .off rfl rfl rfl rfl rfl rfl rfl <| .off rfl rfl rfl rfl rfl rfl rfl <| .pick (.no rfl) rfl rfl rfl rfl rfl <| .move (.no rfl) rfl rfl rfl rfl <| .off rfl rfl rfl rfl rfl rfl rfl <| .off rfl rfl rfl rfl rfl rfl rfl <| .off rfl rfl rfl rfl rfl rfl rfl <| .pick (.no rfl) rfl rfl rfl rfl rfl ?_
   exact .fin () (.of (.cons rfl (.cons rfl (.cons rfl (.cons rfl (.cons (svB (show (true) = (((!(Iv.ok a) || !(Iv.ok b)) || decide ((l.length : Int) > 100))) by first | (simp only [g1_3, Bool.true_or, Bool.false_or, Bool.true_and, Bool.false_and, Bool.not_true, Bool.not_false]; done) | simp [g1_3])) .nil))))) (.r rfl))
 intro _
 refine .cond (t := ((!(Iv.ok a) || !(Iv.ok b)) || decide ((l.length : Int) > 100))) rfl (fun c0 => ?_) (fun c0 => ?_)
 ·have c0 := (oT (oT (nT id) (nT id)) dT) c0
  refine .seq <| .rs fun k6 => .g (fun _ τ => ⟨_, .build (.no rfl) rfl z112 rfl p112 rfl rfl rfl rfl τ⟩) <| .g (fun _ τ => ⟨_, .store (.no rfl) rfl t112 rfl rfl rfl rfl rfl rfl rfl rfl rfl τ⟩) <| .z <| .ret ?_
  have e7 : (0) = ((Iv.widenOk l a b).lo) := by (rw [Iv.widenOk_no c0])
  have e8 : (0) = ((Iv.widenOk l a b).hi) := by (rw [Iv.widenOk_no c0])
  have hc9 := eq2 (fun z1 z2 => some (k2 + 1 + 1, k6 + 1, O.box [.d (.v (.int .i64 (z1))), .d (.v (.int .i64 (z2)))])) e7 e8
  exact fin0 (.inr rfl) (.cell (cells := [.d (.v (.int .i64 ((Iv.widenOk l a b).lo))), .d (.v (.int .i64 ((Iv.widenOk l a b).hi)))]) rfl hc9 t112 rfl rfl .nil) (.dd (.dd .nil)) rfl
 ·have c0 := (oF (oF (nF id) (nF id)) dF) c0
  refine .skip <| .seq <| .rs fun k10 => .lda t112 rfl (.ptr _ _ _ _ _ rfl) rfl <| .g (fun _ τ => ⟨_, .alloc (.no rfl) rfl z112 rfl rfl rfl τ⟩) <| .g (fun _ τ => ⟨_, .store (.no rfl) rfl t112 rfl rfl rfl rfl rfl rfl rfl rfl rfl τ⟩) <| .z <| .seq <| .seq ?_
  refine .rs fun k11 => .fp t112 t2 rfl <| .ld t2 rfl (.ptr _ _ _ _ _ rfl) rfl <| .fp t112 t2 rfl <| .ld t2 rfl (.ptr _ _ _ _ _ rfl) rfl <| .bi rfl <| .z ?_
  refine .cond (t := decide (b.lo < a.lo)) rfl (fun c1 => ?_) (fun c1 => ?_)
  ·have c1 := of_decide_eq_true c1
   refine .seq <| .rs fun k12 => .fp t112 t2 rfl <| .g (fun _ τ => ⟨_, .store (.no rfl) rfl t2 rfl rfl rfl rfl rfl rfl rfl rfl rfl τ⟩) <| .z <| .seq <| .rs fun k13 => .as rfl <| .z ?_
   refine .block ?_
   refine .loop (X := Nat × Nat) (fun ζ => .of [(2, .one (.d (.sl false 2 1 (List.map i64c (l))))), (3, .one (.ptr [3] (k2) 0)), (4, .one (.ptr [4] (k2 + 1) 0)), (6, .one (.ptr [6] (k2 + 1 + 1) 0)), (7, .one (.ptr [7] (k10 + 1) 0)), (8, .one (.d (.v (.int .i64 ((ζ.1 : Int))))))] [([3], (k2, k2, .box [.d (.v (.int .i64 (a.lo))), .d (.v (.int .i64 (a.hi)))])), ([4], (k2 + 1, k2 + 1, .box [.d (.v (.int .i64 (b.lo))), .d (.v (.int .i64 (b.hi)))])), ([6], (k2 + 1 + 1, k2 + 1 + 1, .box [.d (.v (.int .i64 (0))), .d (.v (.int .i64 (0)))])), ([7], (k10 + 1, ζ.2, .box [.d (.v (.int .i64 (widenLo b.lo (l.take ζ.1) (-9223372036854775808)))), .d (.v (.int .i64 (a.hi)))]))]) (fun ζ => ζ.1 ≤ l.length) (fun ζ => l.length - ζ.1) ?_ ?_
   ·skip
    exact .here (0, (k12 + 1)) (.of (.cons rfl (.cons rfl (.cons rfl (.cons rfl (.cons rfl (.cons (svI (show (0) = ((0 : Int)) by first | rfl | omega | exact wrap_le (by omega) (by omega) | (rw [wrap_le (by omega) (by omega)]; omega))) .nil)))))) (.cons rfl (.cons rfl (.cons rfl (.cons (eq1 (fun z1 => some (k10 + 1, k12 + 1, O.box [.d (.v (.int .i64 (z1))), .d (.v (.int .i64 (a.hi)))])) (show (-9223372036854775808) = (widenLo b.lo (l.take 0) (-9223372036854775808)) by first | rfl | (exact widenLo_yes (by omega) c3) | (exact widenLo_no (by omega) c3) | (exact widenHi_yes (by omega) c6) | (exact widenHi_no (by omega) c6))) .nil))))) (show 0 ≤ l.length by omega)
   ·rintro ⟨j, q14⟩ hI
    have hI : j ≤ l.length := hI
    have hl9 : l.length ≤ 100 := by omega
    dsimp only
    refine .seq <| .seq <| .rs fun k15 => .mv rfl <| .mv rfl <| .g (fun _ τ => ⟨_, .len (.no rfl) rfl (z := (l.length : Int)) t120 rfl rfl rfl (.d _ _) (map_len _ _) rfl τ⟩) <| .bi rfl <| .z ?_
    refine .cond (t := decide ((j : Int) < (l.length : Int))) rfl (fun c2 => ?_) (fun c2 => ?_)
    ·have c2 := of_decide_eq_true c2
     refine .skip <| .seq <| .block <| .seq ?_
     refine .regD (X := Unit) (by kernel_rfl) (fun ζ => .of [(2, .one (.d (.sl false 2 1 (List.map i64c (l))))), (3, .one (.ptr [3] (k2) 0)), (4, .one (.ptr [4] (k2 + 1) 0)), (6, .one (.ptr [6] (k2 + 1 + 1) 0)), (7, .one (.ptr [7] (k10 + 1) 0)), (8, .one (.d (.v (.int .i64 ((j : Int)))))), (43, .one (.d (.v (.bool (decide ((l.getD j default) ≤ b.lo))))))] [([3], (k2, k2, .box [.d (.v (.int .i64 (a.lo))), .d (.v (.int .i64 (a.hi)))])), ([4], (k2 + 1, k2 + 1, .box [.d (.v (.int .i64 (b.lo))), .d (.v (.int .i64 (b.hi)))])), ([6], (k2 + 1 + 1, k2 + 1 + 1, .box [.d (.v (.int .i64 (0))), .d (.v (.int .i64 (0)))])), ([7], (k10 + 1, q14, .box [.d (.v (.int .i64 (widenLo b.lo (l.take j) (-9223372036854775808)))), .d (.v (.int .i64 (a.hi)))]))]) [⟨[2], some 37, [], []⟩, ⟨[8], some 38, [], []⟩, ⟨[37, 38], some 39, [], []⟩, ⟨[39], some 40, [], []⟩, ⟨[4], some 41, [], []⟩, ⟨[41], some 42, [[4]], []⟩, ⟨[40, 42], some 43, [], []⟩] (by kernel_rfl) (fun k16 => ?_) ?_
     ·skip
      refine .move (.no rfl) rfl rfl rfl rfl <| .move (.no rfl) rfl rfl rfl rfl <| .indexAddr (.no rfl) rfl (j) t120 rfl t2 rfl rfl rfl (.d _ _) rfl rfl rfl (map_get (by omega)) rfl rfl <| .load (.no rfl) rfl t2 rfl rfl (.d _) rfl rfl rfl rfl <| .fieldAddrP (.no rfl) rfl t112 rfl rfl t2 rfl rfl rfl rfl <| .load (.no rfl) rfl t2 rfl rfl (.ptr _ _ _ _ _ rfl) rfl rfl rfl rfl <| .bin (.no rfl) rfl rfl rfl rfl rfl rfl ?_
      exact .fin () (.of (.r rfl) (.r rfl))
     intro _
     refine .cond (t := decide ((l.getD j default) ≤ b.lo)) rfl (fun c3 => ?_) (fun c3 => ?_)
     ·have c3 := of_decide_eq_true c3
      refine .regD (X := Nat) (by kernel_rfl) (fun ζ => .of [(2, .one (.d (.sl false 2 1 (List.map i64c (l))))), (3, .one (.ptr [3] (k2) 0)), (4, .one (.ptr [4] (k2 + 1) 0)), (6, .one (.ptr [6] (k2 + 1 + 1) 0)), (7, .one (.ptr [7] (k10 + 1) 0)), (8, .one (.d (.v (.int .i64 ((j : Int))))))] [([3], (k2, k2, .box [.d (.v (.int .i64 (a.lo))), .d (.v (.int .i64 (a.hi)))])), ([4], (k2 + 1, k2 + 1, .box [.d (.v (.int .i64 (b.lo))), .d (.v (.int .i64 (b.hi)))])), ([6], (k2 + 1 + 1, k2 + 1 + 1, .box [.d (.v (.int .i64 (0))), .d (.v (.int .i64 (0)))])), ([7], (k10 + 1, ζ, .box [.d (.v (.int .i64 (max (widenLo b.lo (l.take j) (-9223372036854775808)) (l.getD j default)))), .d (.v (.int .i64 (a.hi)))]))]) [⟨[7], some 44, [], []⟩, ⟨[44], some 45, [[7]], []⟩, ⟨[2], some 46, [], []⟩, ⟨[8], some 47, [], []⟩, ⟨[46, 47], some 48, [], []⟩, ⟨[48], some 49, [], []⟩, ⟨[45, 49], some 50, [], []⟩, ⟨[7], some 51, [], []⟩, ⟨[51, 50], none, [[7]], [[7]]⟩] (by kernel_rfl) (fun k17 => ?_) ?_
      ·skip
       refine .fieldAddrP (.no rfl) rfl t112 rfl rfl t2 rfl rfl rfl rfl <| .load (.no rfl) rfl t2 rfl rfl (.ptr _ _ _ _ _ rfl) rfl rfl rfl rfl <| .move (.no rfl) rfl rfl rfl rfl <| .move (.no rfl) rfl rfl rfl rfl <| .indexAddr (.no rfl) rfl (j) t120 rfl t2 rfl rfl rfl (.d _ _) rfl rfl rfl (map_get (by omega)) rfl rfl <| .load (.no rfl) rfl t2 rfl rfl (.d _) rfl rfl rfl rfl <| .max (.no rfl) rfl rfl rfl rfl (max_of _ _) rfl <| .fieldAddrP (.no rfl) rfl t112 rfl rfl t2 rfl rfl rfl rfl <| .store (.no rfl) rfl t2 rfl rfl rfl rfl rfl rfl rfl rfl rfl ?_
       exact .fin (k17 + 1 + 1 + 1 + 1 + 1 + 1 + 1 + 1) (.of (.r rfl) (.r rfl))
      intro g18
      refine .rs fun k19 => .mv rfl <| .bi rfl <| .as rfl <| .z ?_
      exact .here ((j + 1), g18) (.of (.cons rfl (.cons rfl (.cons rfl (.cons rfl (.cons rfl (.cons (svI (show (IntKind.wrap .i64 ((j : Int) + 1)) = (((j + 1) : Int)) by first | rfl | omega | exact wrap_le (by omega) (by omega) | (rw [wrap_le (by omega) (by omega)]; omega))) .nil)))))) (.cons rfl (.cons rfl (.cons rfl (.cons (eq1 (fun z1 => some (k10 + 1, g18, O.box [.d (.v (.int .i64 (z1))), .d (.v (.int .i64 (a.hi)))])) (show (max (widenLo b.lo (l.take j) (-9223372036854775808)) (l.getD j default)) = (widenLo b.lo (l.take (j + 1)) (-9223372036854775808)) by first | rfl | (exact widenLo_yes (by omega) c3) | (exact widenLo_no (by omega) c3) | (exact widenHi_yes (by omega) c6) | (exact widenHi_no (by omega) c6))) .nil))))) ⟨(show (j + 1) ≤ l.length by omega), (show l.length - (j + 1) < l.length - j by omega)⟩
     ·have c3 := of_decide_eq_false c3
      refine .skip <| .rs fun k20 => .mv rfl <| .bi rfl <| .as rfl <| .z ?_
      exact .here ((j + 1), q14) (.of (.cons rfl (.cons rfl (.cons rfl (.cons rfl (.cons rfl (.cons (svI (show (IntKind.wrap .i64 ((j : Int) + 1)) = (((j + 1) : Int)) by first | rfl | omega | exact wrap_le (by omega) (by omega) | (rw [wrap_le (by omega) (by omega)]; omega))) .nil)))))) (.cons rfl (.cons rfl (.cons rfl (.cons (eq1 (fun z1 => some (k10 + 1, q14, O.box [.d (.v (.int .i64 (z1))), .d (.v (.int .i64 (a.hi)))])) (show (widenLo b.lo (l.take j) (-9223372036854775808)) = (widenLo b.lo (l.take (j + 1)) (-9223372036854775808)) by first | rfl | (exact widenLo_yes (by omega) c3) | (exact widenLo_no (by omega) c3) | (exact widenHi_yes (by omega) c6) | (exact widenHi_no (by omega) c6))) .nil))))) ⟨(show (j + 1) ≤ l.length by omega), (show l.length - (j + 1) < l.length - j by omega)⟩
    ·have c2 := of_decide_eq_false c2
     refine .exit <| .seq <| .seq <| .rs fun k21 => .fp t112 t2 rfl <| .ld t2 rfl (.ptr _ _ _ _ _ rfl) rfl <| .fp t112 t2 rfl <| .ld t2 rfl (.ptr _ _ _ _ _ rfl) rfl <| .bi rfl ?_
     refine .z ?_
     refine .cond (t := decide (b.hi > a.hi)) rfl (fun c4 => ?_) (fun c4 => ?_)
     ·have c4 := of_decide_eq_true c4
      refine .seq <| .rs fun k22 => .fp t112 t2 rfl <| .g (fun _ τ => ⟨_, .store (.no rfl) rfl t2 rfl rfl rfl rfl rfl rfl rfl rfl rfl τ⟩) <| .z <| .seq <| .rs fun k23 => .as rfl <| .z ?_
      refine .block ?_
      refine .loop (X := Nat × Nat) (fun ζ => .of [(2, .one (.d (.sl false 2 1 (List.map i64c (l))))), (4, .one (.ptr [4] (k2 + 1) 0)), (6, .one (.ptr [6] (k2 + 1 + 1) 0)), (7, .one (.ptr [7] (k10 + 1) 0)), (9, .one (.d (.v (.int .i64 ((ζ.1 : Int))))))] [([4], (k2 + 1, k2 + 1, .box [.d (.v (.int .i64 (b.lo))), .d (.v (.int .i64 (b.hi)))])), ([6], (k2 + 1 + 1, k2 + 1 + 1, .box [.d (.v (.int .i64 (0))), .d (.v (.int .i64 (0)))])), ([7], (k10 + 1, ζ.2, .box [.d (.v (.int .i64 (widenLo b.lo (l.take j) (-9223372036854775808)))), .d (.v (.int .i64 (widenHi b.hi (l.take ζ.1) 9223372036854775807)))]))]) (fun ζ => ζ.1 ≤ l.length) (fun ζ => l.length - ζ.1) ?_ ?_
      ·skip
       exact .here (0, (k22 + 1)) (.of (.cons rfl (.cons rfl (.cons rfl (.cons rfl (.cons (svI (show (0) = ((0 : Int)) by first | rfl | omega | exact wrap_le (by omega) (by omega) | (rw [wrap_le (by omega) (by omega)]; omega))) .nil))))) (.cons rfl (.cons rfl (.cons (eq1 (fun z1 => some (k10 + 1, k22 + 1, O.box [.d (.v (.int .i64 (widenLo b.lo (l.take j) (-9223372036854775808)))), .d (.v (.int .i64 (z1)))])) (show (9223372036854775807) = (widenHi b.hi (l.take 0) 9223372036854775807) by first | rfl | (exact widenLo_yes (by omega) c3) | (exact widenLo_no (by omega) c3) | (exact widenHi_yes (by omega) c6) | (exact widenHi_no (by omega) c6))) .nil)))) (show 0 ≤ l.length by omega)
      ·rintro ⟨i, q24⟩ hI
       have hI : i ≤ l.length := hI
       have hl9 : l.length ≤ 100 := by omega
       have hj9 := ‹j ≤ l.length›
       dsimp only
       refine .seq <| .seq <| .rs fun k25 => .mv rfl <| .mv rfl <| .g (fun _ τ => ⟨_, .len (.no rfl) rfl (z := (l.length : Int)) t120 rfl rfl rfl (.d _ _) (map_len _ _) rfl τ⟩) <| .bi rfl <| .z ?_
       refine .cond (t := decide ((i : Int) < (l.length : Int))) rfl (fun c5 => ?_) (fun c5 => ?_)
       ·have c5 := of_decide_eq_true c5
        refine .skip <| .seq <| .block <| .seq ?_
        refine .regD (X := Unit) (by kernel_rfl) (fun ζ => .of [(2, .one (.d (.sl false 2 1 (List.map i64c (l))))), (4, .one (.ptr [4] (k2 + 1) 0)), (6, .one (.ptr [6] (k2 + 1 + 1) 0)), (7, .one (.ptr [7] (k10 + 1) 0)), (9, .one (.d (.v (.int .i64 ((i : Int)))))), (70, .one (.d (.v (.bool (decide ((l.getD i default) ≥ b.hi))))))] [([4], (k2 + 1, k2 + 1, .box [.d (.v (.int .i64 (b.lo))), .d (.v (.int .i64 (b.hi)))])), ([6], (k2 + 1 + 1, k2 + 1 + 1, .box [.d (.v (.int .i64 (0))), .d (.v (.int .i64 (0)))])), ([7], (k10 + 1, q24, .box [.d (.v (.int .i64 (widenLo b.lo (l.take j) (-9223372036854775808)))), .d (.v (.int .i64 (widenHi b.hi (l.take i) 9223372036854775807)))]))]) [⟨[2], some 64, [], []⟩, ⟨[9], some 65, [], []⟩, ⟨[64, 65], some 66, [], []⟩, ⟨[66], some 67, [], []⟩, ⟨[4], some 68, [], []⟩, ⟨[68], some 69, [[4]], []⟩, ⟨[67, 69], some 70, [], []⟩] (by kernel_rfl) (fun k26 => ?_) ?_
        ·skip
         refine .move (.no rfl) rfl rfl rfl rfl <| .move (.no rfl) rfl rfl rfl rfl <| .indexAddr (.no rfl) rfl (i) t120 rfl t2 rfl rfl rfl (.d _ _) rfl rfl rfl (map_get (by omega)) rfl rfl <| .load (.no rfl) rfl t2 rfl rfl (.d _) rfl rfl rfl rfl <| .fieldAddrP (.no rfl) rfl t112 rfl rfl t2 rfl rfl rfl rfl <| .load (.no rfl) rfl t2 rfl rfl (.ptr _ _ _ _ _ rfl) rfl rfl rfl rfl <| .bin (.no rfl) rfl rfl rfl rfl rfl rfl ?_
         exact .fin () (.of (.r rfl) (.r rfl))
        intro _
        refine .cond (t := decide ((l.getD i default) ≥ b.hi)) rfl (fun c6 => ?_) (fun c6 => ?_)
        ·have c6 := of_decide_eq_true c6
         refine .regD (X := Nat) (by kernel_rfl) (fun ζ => .of [(2, .one (.d (.sl false 2 1 (List.map i64c (l))))), (4, .one (.ptr [4] (k2 + 1) 0)), (6, .one (.ptr [6] (k2 + 1 + 1) 0)), (7, .one (.ptr [7] (k10 + 1) 0)), (9, .one (.d (.v (.int .i64 ((i : Int))))))] [([4], (k2 + 1, k2 + 1, .box [.d (.v (.int .i64 (b.lo))), .d (.v (.int .i64 (b.hi)))])), ([6], (k2 + 1 + 1, k2 + 1 + 1, .box [.d (.v (.int .i64 (0))), .d (.v (.int .i64 (0)))])), ([7], (k10 + 1, ζ, .box [.d (.v (.int .i64 (widenLo b.lo (l.take j) (-9223372036854775808)))), .d (.v (.int .i64 (min (widenHi b.hi (l.take i) 9223372036854775807) (l.getD i default))))]))]) [⟨[7], some 71, [], []⟩, ⟨[71], some 72, [[7]], []⟩, ⟨[2], some 73, [], []⟩, ⟨[9], some 74, [], []⟩, ⟨[73, 74], some 75, [], []⟩, ⟨[75], some 76, [], []⟩, ⟨[72, 76], some 77, [], []⟩, ⟨[7], some 78, [], []⟩, ⟨[78, 77], none, [[7]], [[7]]⟩] (by kernel_rfl) (fun k27 => ?_) ?_
         ·skip
          refine .fieldAddrP (.no rfl) rfl t112 rfl rfl t2 rfl rfl rfl rfl <| .load (.no rfl) rfl t2 rfl rfl (.ptr _ _ _ _ _ rfl) rfl rfl rfl rfl <| .move (.no rfl) rfl rfl rfl rfl <| .move (.no rfl) rfl rfl rfl rfl <| .indexAddr (.no rfl) rfl (i) t120 rfl t2 rfl rfl rfl (.d _ _) rfl rfl rfl (map_get (by omega)) rfl rfl <| .load (.no rfl) rfl t2 rfl rfl (.d _) rfl rfl rfl rfl <| .min (.no rfl) rfl rfl rfl rfl (min_of _ _) rfl <| .fieldAddrP (.no rfl) rfl t112 rfl rfl t2 rfl rfl rfl rfl <| .store (.no rfl) rfl t2 rfl rfl rfl rfl rfl rfl rfl rfl rfl ?_
          exact .fin (k27 + 1 + 1 + 1 + 1 + 1 + 1 + 1 + 1) (.of (.r rfl) (.r rfl))
         intro g28
         refine .rs fun k29 => .mv rfl <| .bi rfl <| .as rfl <| .z ?_
         exact .here ((i + 1), g28) (.of (.cons rfl (.cons rfl (.cons rfl (.cons rfl (.cons (svI (show (IntKind.wrap .i64 ((i : Int) + 1)) = (((i + 1) : Int)) by first | rfl | omega | exact wrap_le (by omega) (by omega) | (rw [wrap_le (by omega) (by omega)]; omega))) .nil))))) (.cons rfl (.cons rfl (.cons (eq1 (fun z1 => some (k10 + 1, g28, O.box [.d (.v (.int .i64 (widenLo b.lo (l.take j) (-9223372036854775808)))), .d (.v (.int .i64 (z1)))])) (show (min (widenHi b.hi (l.take i) 9223372036854775807) (l.getD i default)) = (widenHi b.hi (l.take (i + 1)) 9223372036854775807) by first | rfl | (exact widenLo_yes (by omega) c3) | (exact widenLo_no (by omega) c3) | (exact widenHi_yes (by omega) c6) | (exact widenHi_no (by omega) c6))) .nil)))) ⟨(show (i + 1) ≤ l.length by omega), (show l.length - (i + 1) < l.length - i by omega)⟩
        ·have c6 := of_decide_eq_false c6
         refine .skip <| .rs fun k30 => .mv rfl <| .bi rfl <| .as rfl <| .z ?_
         exact .here ((i + 1), q24) (.of (.cons rfl (.cons rfl (.cons rfl (.cons rfl (.cons (svI (show (IntKind.wrap .i64 ((i : Int) + 1)) = (((i + 1) : Int)) by first | rfl | omega | exact wrap_le (by omega) (by omega) | (rw [wrap_le (by omega) (by omega)]; omega))) .nil))))) (.cons rfl (.cons rfl (.cons (eq1 (fun z1 => some (k10 + 1, q24, O.box [.d (.v (.int .i64 (widenLo b.lo (l.take j) (-9223372036854775808)))), .d (.v (.int .i64 (z1)))])) (show (widenHi b.hi (l.take i) 9223372036854775807) = (widenHi b.hi (l.take (i + 1)) 9223372036854775807) by first | rfl | (exact widenLo_yes (by omega) c3) | (exact widenLo_no (by omega) c3) | (exact widenHi_yes (by omega) c6) | (exact widenHi_no (by omega) c6))) .nil)))) ⟨(show (i + 1) ≤ l.length by omega), (show l.length - (i + 1) < l.length - i by omega)⟩
       ·have c5 := of_decide_eq_false c5
        refine .exit <| .seq <| .rs fun k31 => .lda t112 rfl (.ptr _ _ _ _ _ rfl) rfl <| .g (fun _ τ => ⟨_, .store (.no rfl) rfl t112 rfl rfl rfl rfl rfl rfl rfl rfl rfl τ⟩) <| .z <| .ret ?_
        have e32 : (widenLo b.lo (l.take j) (-9223372036854775808)) = ((Iv.widenOk l a b).lo) := by (rw [Iv.widenOk_yes c0]; simp only [Iv.widen]; first | (rw [List.take_of_length_le (by omega), if_pos c1]; done) | (rw [List.take_of_length_le (by omega), if_pos c4]; done))
        have e33 : (widenHi b.hi (l.take i) 9223372036854775807) = ((Iv.widenOk l a b).hi) := by (rw [Iv.widenOk_yes c0]; simp only [Iv.widen]; first | (rw [List.take_of_length_le (by omega), if_pos c1]; done) | (rw [List.take_of_length_le (by omega), if_pos c4]; done))
        have hc34 := eq2 (fun z1 z2 => some (k2 + 1 + 1, k31 + 1, O.box [.d (.v (.int .i64 (z1))), .d (.v (.int .i64 (z2)))])) e32 e33
        exact fin0 (.inr rfl) (.cell (cells := [.d (.v (.int .i64 ((Iv.widenOk l a b).lo))), .d (.v (.int .i64 ((Iv.widenOk l a b).hi)))]) rfl hc34 t112 rfl rfl .nil) (.dd (.dd .nil)) rfl
     ·have c4 := of_decide_eq_false c4
      refine .skip <| .seq <| .rs fun k35 => .lda t112 rfl (.ptr _ _ _ _ _ rfl) rfl <| .g (fun _ τ => ⟨_, .store (.no rfl) rfl t112 rfl rfl rfl rfl rfl rfl rfl rfl rfl τ⟩) <| .z <| .ret ?_
      have e36 : (widenLo b.lo (l.take j) (-9223372036854775808)) = ((Iv.widenOk l a b).lo) := by (rw [Iv.widenOk_yes c0]; simp only [Iv.widen]; first | (rw [List.take_of_length_le (by omega), if_pos c1]; done) | (rw [if_neg c4]; done))
      have e37 : (a.hi) = ((Iv.widenOk l a b).hi) := by (rw [Iv.widenOk_yes c0]; simp only [Iv.widen]; first | (rw [List.take_of_length_le (by omega), if_pos c1]; done) | (rw [if_neg c4]; done))
      have hc38 := eq2 (fun z1 z2 => some (k2 + 1 + 1, k35 + 1, O.box [.d (.v (.int .i64 (z1))), .d (.v (.int .i64 (z2)))])) e36 e37
      exact fin0 (.inr rfl) (.cell (cells := [.d (.v (.int .i64 ((Iv.widenOk l a b).lo))), .d (.v (.int .i64 ((Iv.widenOk l a b).hi)))]) rfl hc38 t112 rfl rfl .nil) (.dd (.dd .nil)) rfl
  ·have c1 := of_decide_eq_false c1
   refine .skip <| .seq <| .seq <| .rs fun k39 => .fp t112 t2 rfl <| .ld t2 rfl (.ptr _ _ _ _ _ rfl) rfl <| .fp t112 t2 rfl <| .ld t2 rfl (.ptr _ _ _ _ _ rfl) rfl <| .bi rfl ?_
   refine .z ?_
   refine .cond (t := decide (b.hi > a.hi)) rfl (fun c4 => ?_) (fun c4 => ?_)
   ·have c4 := of_decide_eq_true c4
    refine .seq <| .rs fun k40 => .fp t112 t2 rfl <| .g (fun _ τ => ⟨_, .store (.no rfl) rfl t2 rfl rfl rfl rfl rfl rfl rfl rfl rfl τ⟩) <| .z <| .seq <| .rs fun k41 => .as rfl <| .z ?_
    refine .block ?_
    refine .loop (X := Nat × Nat) (fun ζ => .of [(2, .one (.d (.sl false 2 1 (List.map i64c (l))))), (4, .one (.ptr [4] (k2 + 1) 0)), (6, .one (.ptr [6] (k2 + 1 + 1) 0)), (7, .one (.ptr [7] (k10 + 1) 0)), (9, .one (.d (.v (.int .i64 ((ζ.1 : Int))))))] [([4], (k2 + 1, k2 + 1, .box [.d (.v (.int .i64 (b.lo))), .d (.v (.int .i64 (b.hi)))])), ([6], (k2 + 1 + 1, k2 + 1 + 1, .box [.d (.v (.int .i64 (0))), .d (.v (.int .i64 (0)))])), ([7], (k10 + 1, ζ.2, .box [.d (.v (.int .i64 (a.lo))), .d (.v (.int .i64 (widenHi b.hi (l.take ζ.1) 9223372036854775807)))]))]) (fun ζ => ζ.1 ≤ l.length) (fun ζ => l.length - ζ.1) ?_ ?_
    ·skip
     exact .here (0, (k40 + 1)) (.of (.cons rfl (.cons rfl (.cons rfl (.cons rfl (.cons (svI (show (0) = ((0 : Int)) by first | rfl | omega | exact wrap_le (by omega) (by omega) | (rw [wrap_le (by omega) (by omega)]; omega))) .nil))))) (.cons rfl (.cons rfl (.cons (eq1 (fun z1 => some (k10 + 1, k40 + 1, O.box [.d (.v (.int .i64 (a.lo))), .d (.v (.int .i64 (z1)))])) (show (9223372036854775807) = (widenHi b.hi (l.take 0) 9223372036854775807) by first | rfl | (exact widenLo_yes (by omega) c3) | (exact widenLo_no (by omega) c3) | (exact widenHi_yes (by omega) c6) | (exact widenHi_no (by omega) c6))) .nil)))) (show 0 ≤ l.length by omega)
    ·rintro ⟨i, q42⟩ hI
     have hI : i ≤ l.length := hI
     have hl9 : l.length ≤ 100 := by omega
     dsimp only
     refine .seq <| .seq <| .rs fun k43 => .mv rfl <| .mv rfl <| .g (fun _ τ => ⟨_, .len (.no rfl) rfl (z := (l.length : Int)) t120 rfl rfl rfl (.d _ _) (map_len _ _) rfl τ⟩) <| .bi rfl <| .z ?_
     refine .cond (t := decide ((i : Int) < (l.length : Int))) rfl (fun c5 => ?_) (fun c5 => ?_)
     ·have c5 := of_decide_eq_true c5
      refine .skip <| .seq <| .block <| .seq ?_
      refine .regD (X := Unit) (by kernel_rfl) (fun ζ => .of [(2, .one (.d (.sl false 2 1 (List.map i64c (l))))), (4, .one (.ptr [4] (k2 + 1) 0)), (6, .one (.ptr [6] (k2 + 1 + 1) 0)), (7, .one (.ptr [7] (k10 + 1) 0)), (9, .one (.d (.v (.int .i64 ((i : Int)))))), (70, .one (.d (.v (.bool (decide ((l.getD i default) ≥ b.hi))))))] [([4], (k2 + 1, k2 + 1, .box [.d (.v (.int .i64 (b.lo))), .d (.v (.int .i64 (b.hi)))])), ([6], (k2 + 1 + 1, k2 + 1 + 1, .box [.d (.v (.int .i64 (0))), .d (.v (.int .i64 (0)))])), ([7], (k10 + 1, q42, .box [.d (.v (.int .i64 (a.lo))), .d (.v (.int .i64 (widenHi b.hi (l.take i) 9223372036854775807)))]))]) [⟨[2], some 64, [], []⟩, ⟨[9], some 65, [], []⟩, ⟨[64, 65], some 66, [], []⟩, ⟨[66], some 67, [], []⟩, ⟨[4], some 68, [], []⟩, ⟨[68], some 69, [[4]], []⟩, ⟨[67, 69], some 70, [], []⟩] (by kernel_rfl) (fun k44 => ?_) ?_
      ·skip
       refine .move (.no rfl) rfl rfl rfl rfl <| .move (.no rfl) rfl rfl rfl rfl <| .indexAddr (.no rfl) rfl (i) t120 rfl t2 rfl rfl rfl (.d _ _) rfl rfl rfl (map_get (by omega)) rfl rfl <| .load (.no rfl) rfl t2 rfl rfl (.d _) rfl rfl rfl rfl <| .fieldAddrP (.no rfl) rfl t112 rfl rfl t2 rfl rfl rfl rfl <| .load (.no rfl) rfl t2 rfl rfl (.ptr _ _ _ _ _ rfl) rfl rfl rfl rfl <| .bin (.no rfl) rfl rfl rfl rfl rfl rfl ?_
       exact .fin () (.of (.r rfl) (.r rfl))
      intro _
      refine .cond (t := decide ((l.getD i default) ≥ b.hi)) rfl (fun c6 => ?_) (fun c6 => ?_)
      ·have c6 := of_decide_eq_true c6
       refine .regD (X := Nat) (by kernel_rfl) (fun ζ => .of [(2, .one (.d (.sl false 2 1 (List.map i64c (l))))), (4, .one (.ptr [4] (k2 + 1) 0)), (6, .one (.ptr [6] (k2 + 1 + 1) 0)), (7, .one (.ptr [7] (k10 + 1) 0)), (9, .one (.d (.v (.int .i64 ((i : Int))))))] [([4], (k2 + 1, k2 + 1, .box [.d (.v (.int .i64 (b.lo))), .d (.v (.int .i64 (b.hi)))])), ([6], (k2 + 1 + 1, k2 + 1 + 1, .box [.d (.v (.int .i64 (0))), .d (.v (.int .i64 (0)))])), ([7], (k10 + 1, ζ, .box [.d (.v (.int .i64 (a.lo))), .d (.v (.int .i64 (min (widenHi b.hi (l.take i) 9223372036854775807) (l.getD i default))))]))]) [⟨[7], some 71, [], []⟩, ⟨[71], some 72, [[7]], []⟩, ⟨[2], some 73, [], []⟩, ⟨[9], some 74, [], []⟩, ⟨[73, 74], some 75, [], []⟩, ⟨[75], some 76, [], []⟩, ⟨[72, 76], some 77, [], []⟩, ⟨[7], some 78, [], []⟩, ⟨[78, 77], none, [[7]], [[7]]⟩] (by kernel_rfl) (fun k45 => ?_) ?_
       ·skip
        refine .fieldAddrP (.no rfl) rfl t112 rfl rfl t2 rfl rfl rfl rfl <| .load (.no rfl) rfl t2 rfl rfl (.ptr _ _ _ _ _ rfl) rfl rfl rfl rfl <| .move (.no rfl) rfl rfl rfl rfl <| .move (.no rfl) rfl rfl rfl rfl <| .indexAddr (.no rfl) rfl (i) t120 rfl t2 rfl rfl rfl (.d _ _) rfl rfl rfl (map_get (by omega)) rfl rfl <| .load (.no rfl) rfl t2 rfl rfl (.d _) rfl rfl rfl rfl <| .min (.no rfl) rfl rfl rfl rfl (min_of _ _) rfl <| .fieldAddrP (.no rfl) rfl t112 rfl rfl t2 rfl rfl rfl rfl <| .store (.no rfl) rfl t2 rfl rfl rfl rfl rfl rfl rfl rfl rfl ?_
        exact .fin (k45 + 1 + 1 + 1 + 1 + 1 + 1 + 1 + 1) (.of (.r rfl) (.r rfl))
       intro g46
       refine .rs fun k47 => .mv rfl <| .bi rfl <| .as rfl <| .z ?_
       exact .here ((i + 1), g46) (.of (.cons rfl (.cons rfl (.cons rfl (.cons rfl (.cons (svI (show (IntKind.wrap .i64 ((i : Int) + 1)) = (((i + 1) : Int)) by first | rfl | omega | exact wrap_le (by omega) (by omega) | (rw [wrap_le (by omega) (by omega)]; omega))) .nil))))) (.cons rfl (.cons rfl (.cons (eq1 (fun z1 => some (k10 + 1, g46, O.box [.d (.v (.int .i64 (a.lo))), .d (.v (.int .i64 (z1)))])) (show (min (widenHi b.hi (l.take i) 9223372036854775807) (l.getD i default)) = (widenHi b.hi (l.take (i + 1)) 9223372036854775807) by first | rfl | (exact widenLo_yes (by omega) c3) | (exact widenLo_no (by omega) c3) | (exact widenHi_yes (by omega) c6) | (exact widenHi_no (by omega) c6))) .nil)))) ⟨(show (i + 1) ≤ l.length by omega), (show l.length - (i + 1) < l.length - i by omega)⟩
      ·have c6 := of_decide_eq_false c6
       refine .skip <| .rs fun k48 => .mv rfl <| .bi rfl <| .as rfl <| .z ?_
       exact .here ((i + 1), q42) (.of (.cons rfl (.cons rfl (.cons rfl (.cons rfl (.cons (svI (show (IntKind.wrap .i64 ((i : Int) + 1)) = (((i + 1) : Int)) by first | rfl | omega | exact wrap_le (by omega) (by omega) | (rw [wrap_le (by omega) (by omega)]; omega))) .nil))))) (.cons rfl (.cons rfl (.cons (eq1 (fun z1 => some (k10 + 1, q42, O.box [.d (.v (.int .i64 (a.lo))), .d (.v (.int .i64 (z1)))])) (show (widenHi b.hi (l.take i) 9223372036854775807) = (widenHi b.hi (l.take (i + 1)) 9223372036854775807) by first | rfl | (exact widenLo_yes (by omega) c3) | (exact widenLo_no (by omega) c3) | (exact widenHi_yes (by omega) c6) | (exact widenHi_no (by omega) c6))) .nil)))) ⟨(show (i + 1) ≤ l.length by omega), (show l.length - (i + 1) < l.length - i by omega)⟩
     ·have c5 := of_decide_eq_false c5
      refine .exit <| .seq <| .rs fun k49 => .lda t112 rfl (.ptr _ _ _ _ _ rfl) rfl <| .g (fun _ τ => ⟨_, .store (.no rfl) rfl t112 rfl rfl rfl rfl rfl rfl rfl rfl rfl τ⟩) <| .z <| .ret ?_
      have e50 : (a.lo) = ((Iv.widenOk l a b).lo) := by (rw [Iv.widenOk_yes c0]; simp only [Iv.widen]; first | (rw [if_neg c1]; done) | (rw [List.take_of_length_le (by omega), if_pos c4]; done))
      have e51 : (widenHi b.hi (l.take i) 9223372036854775807) = ((Iv.widenOk l a b).hi) := by (rw [Iv.widenOk_yes c0]; simp only [Iv.widen]; first | (rw [if_neg c1]; done) | (rw [List.take_of_length_le (by omega), if_pos c4]; done))
      have hc52 := eq2 (fun z1 z2 => some (k2 + 1 + 1, k49 + 1, O.box [.d (.v (.int .i64 (z1))), .d (.v (.int .i64 (z2)))])) e50 e51
      exact fin0 (.inr rfl) (.cell (cells := [.d (.v (.int .i64 ((Iv.widenOk l a b).lo))), .d (.v (.int .i64 ((Iv.widenOk l a b).hi)))]) rfl hc52 t112 rfl rfl .nil) (.dd (.dd .nil)) rfl
   ·have c4 := of_decide_eq_false c4
    refine .skip <| .seq <| .rs fun k53 => .lda t112 rfl (.ptr _ _ _ _ _ rfl) rfl <| .g (fun _ τ => ⟨_, .store (.no rfl) rfl t112 rfl rfl rfl rfl rfl rfl rfl rfl rfl τ⟩) <| .z <| .ret ?_
    have e54 : (a.lo) = ((Iv.widenOk l a b).lo) := by (rw [Iv.widenOk_yes c0]; simp only [Iv.widen]; first | (rw [if_neg c1]; done) | (rw [if_neg c4]; done))
    have e55 : (a.hi) = ((Iv.widenOk l a b).hi) := by (rw [Iv.widenOk_yes c0]; simp only [Iv.widen]; first | (rw [if_neg c1]; done) | (rw [if_neg c4]; done))
    have hc56 := eq2 (fun z1 z2 => some (k2 + 1 + 1, k53 + 1, O.box [.d (.v (.int .i64 (z1))), .d (.v (.int .i64 (z2)))])) e54 e55
    exact fin0 (.inr rfl) (.cell (cells := [.d (.v (.int .i64 ((Iv.widenOk l a b).lo))), .d (.v (.int .i64 ((Iv.widenOk l a b).hi)))]) rfl hc56 t112 rfl rfl .nil) (.dd (.dd .nil)) rfl
end Go.Proofs

namespace Go.Proofs
open Go Go.Proofs Go.Ev

theorem c_l6Widen (a : Env) (b : Env) (l : List Int) (hj : a.live = true → b.live = true → a.ints.length = b.ints.length ∧ a.arrs.length = b.arrs.length) (hb : a.ints.length ≤ 1048576 ∧ a.arrs.length ≤ 1048576 ∧ b.ints.length ≤ 1048576 ∧ b.arrs.length ≤ 1048576) : Trip Tryz.prog 121 [(true, 3), (true, 3), (false, 1)] (Env.c81 a ++ Env.c81 b ++ [.sl false 2 1 (List.map i64c (l))]) [(true, 3)] [.v (.bool ((Env.joinW (fun x y => Iv.widenOk l x y) a b).live)), .sl true 112 2 (List.map Iv.c ((Env.joinW (fun x y => Iv.widenOk l x y) a b).ints)), .sl true 112 2 (List.map Iv.c ((Env.joinW (fun x y => Iv.widenOk l x y) a b).arrs))] [] := by
 refine Trip.of Tryz.func121 (by decide) (c := _) rfl rfl (Nat.le_of_ble_eq_true rfl) rfl (AftOk.nil _) <| .sla (t := 0) 1 rfl rfl fun hs1l => .sla (t := 0) 2 rfl rfl fun hs2l => .sla (t := 1) 1 rfl rfl fun hs3l => .sla (t := 1) 2 rfl rfl fun hs4l => .sl (t := 2) rfl fun hs5l => .seq <| .rs fun k6 => .g (fun _ τ => ⟨_, .box (.no rfl) rfl rfl rfl rfl rfl τ⟩) ?_
 refine .g (fun _ τ => ⟨_, .box (.no rfl) rfl rfl rfl rfl rfl τ⟩) <| .g (fun _ τ => ⟨_, .alloc (.no rfl) rfl z81 rfl rfl rfl τ⟩) <| .z <| .seq <| .seq ?_
 refine .reg (X := Unit) (fun ζ => .of [(2, .one (.d (.sl false 2 1 (List.map i64c (l))))), (3, .one (.ptr [3] (k6) 0)), (4, .one (.ptr [4] (k6 + 1) 0)), (6, .one (.ptr [6] (k6 + 1 + 1) 0)), (18, .one (.d (.v (.bool ((!a.live || !b.live))))))] [([3], (k6, k6, .box [.d (.v (.bool (a.live))), .d (.sl false 112 2 (List.map Iv.c (a.ints))), .d (.sl false 112 2 (List.map Iv.c (a.arrs)))])), ([4], (k6 + 1, k6 + 1, .box [.d (.v (.bool (b.live))), .d (.sl false 112 2 (List.map Iv.c (b.ints))), .d (.sl false 112 2 (List.map Iv.c (b.arrs)))])), ([6], (k6 + 1 + 1, k6 + 1 + 1, .box [.d (.v (.bool (false))), .d (.v (.slice none 0 0)), .d (.v (.slice none 0 0))]))]) [⟨[3], some 11, [], []⟩, ⟨[11], some 12, [[3]], []⟩, ⟨[12], some 13, [], []⟩, ⟨[13], some 14, [], []⟩, ⟨[14, 4], some 15, [], []⟩, ⟨[14, 15], some 16, [[4]], []⟩, ⟨[14, 16], some 17, [], []⟩, ⟨[14, 17], some 18, [], []⟩] (fun k7 => ?_) ?_
 ·skip
  refine .fieldAddrP (.no rfl) rfl t81 rfl rfl t4 rfl rfl rfl rfl <| .load (.no rfl) rfl t4 rfl rfl (.ptr _ _ _ _ _ rfl) rfl rfl rfl rfl <| .un (.no rfl) rfl rfl rfl rfl rfl <| .moveB (.no rfl) rfl rfl rfl rfl fun b8 g1_3 => ?_
  cases b8
  ·skip
   refine .fieldAddrP (.on rfl rfl rfl rfl rfl) rfl t81 rfl rfl t4 rfl rfl rfl rfl <| .load (.on rfl rfl rfl rfl rfl) rfl t4 rfl rfl (.ptr _ _ _ _ _ rfl) rfl rfl rfl rfl <| .un (.on rfl rfl rfl rfl rfl) rfl rfl rfl rfl rfl <| .pick (.no rfl) rfl rfl rfl rfl rfl ?_
   exact .fin () (.of (.cons rfl (.cons rfl (.cons rfl (.cons rfl (.cons (svB (show (!b.live) = ((!a.live || !b.live)) by first | (simp only [g1_3, Bool.true_or, Bool.false_or, Bool.true_and, Bool.false_and, Bool.not_true, Bool.not_false]; done) | simp [g1_3])) .nil))))) (.r rfl))
  ·skip
   refine .off rfl rfl rfl rfl rfl rfl rfl <| .off rfl rfl rfl rfl rfl rfl rfl <| .off rfl rfl rfl rfl rfl rfl rfl <| .pick (.no rfl) rfl rfl rfl rfl rfl ?_
   exact .fin () (.of (.cons rfl (.cons rfl (.cons rfl (.cons rfl (.cons (svB (show (true) = ((!a.live || !b.live)) by first | (simp only [g1_3, Bool.true_or, Bool.false_or, Bool.true_and, Bool.false_and, Bool.not_true, Bool.not_false]; done) | simp [g1_3])) .nil))))) (.r rfl))
 intro _
 refine .cond (t := (!a.live || !b.live)) rfl (fun c0 => ?_) (fun c0 => ?_)
 ·have c0 := (oT (nT id) (nT id)) c0
  refine .seq <| .rs fun k9 => .lda t81 rfl (.ptr _ _ _ _ _ rfl) rfl <| .lda t81 rfl (.ptr _ _ _ _ _ rfl) rfl <| .c0 (c_l6Join a b (by first | assumption | omega | (rw [zip2To_len]; simp at hI c1 ⊢; omega)) (by first | assumption | omega | (rw [zip2To_len]; simp at hI c1 ⊢; omega))) rfl (.dd (.dd (.dd (.dd (.dd (.dd .nil)))))) (.own [21, 0] (.own [21, 1] (.own [21, 2] .nil))) rfl <| .g (fun _ τ => ⟨_, .store (.no rfl) rfl t81 rfl rfl rfl rfl rfl rfl rfl rfl rfl τ⟩) <| .z <| .ret ?_
  have e10 : ((Env.join a b).live) = ((Env.joinW (fun x y => Iv.widenOk l x y) a b).live) := by (rw [Env.joinW_dead c0])
  have e11 : ((Env.join a b).ints) = ((Env.joinW (fun x y => Iv.widenOk l x y) a b).ints) := by (rw [Env.joinW_dead c0])
  have e12 : ((Env.join a b).arrs) = ((Env.joinW (fun x y => Iv.widenOk l x y) a b).arrs) := by (rw [Env.joinW_dead c0])
  have hc13 := eq1 (fun z1 => some (k6 + 1 + 1, k9 + 1 + 1 + 1, O.box [.d (.v (.bool (z1))), .ref [21, 1] (k9 + 1 + 1), .ref [21, 2] (k9 + 1 + 1)])) e10
  exact fin1 (.inr rfl) [] [([21, 1], (k9 + 1 + 1, k9 + 1 + 1, .row 112 2 (List.map Iv.c ((Env.joinW (fun x y => Iv.widenOk l x y) a b).ints)))), ([21, 2], (k9 + 1 + 1, k9 + 1 + 1, .row 112 2 (List.map Iv.c ((Env.joinW (fun x y => Iv.widenOk l x y) a b).arrs))))] (.cell (cells := [.d (.v (.bool ((Env.joinW (fun x y => Iv.widenOk l x y) a b).live))), .ref [21, 1] (k9 + 1 + 1), .ref [21, 2] (k9 + 1 + 1)]) rfl hc13 t81 rfl rfl .nil) (.dd (.cons (.ref (.head _)) (.cons (.ref (.tail _ (.head _))) .nil))) rfl rfl (.cons (rowE (congrArg (List.map Iv.c) e11)) (.cons (rowE (congrArg (List.map Iv.c) e12)) .nil))
 ·have c0 := (oF (nF id) (nF id)) c0
  refine .skip <| .seq <| .rs fun k14 => .lda t81 rfl (.ptr _ _ _ _ _ rfl) rfl <| .c0 (c_l6List a (by first | assumption | omega | (rw [zip2To_len]; simp at hI c1 ⊢; omega))) rfl (.dd (.dd (.dd .nil))) (.frz [23, 0] (Frz.of_erase (erase_slo _ _ _ _ _ _ Iv.c_e)) .nil) rfl <| .as rfl <| .z <| .seq <| .rs fun k15 => ?_
  refine .lda t81 rfl (.ptr _ _ _ _ _ rfl) rfl <| .c0 (c_l6List b (by first | assumption | omega | (rw [zip2To_len]; simp at hI c1 ⊢; omega))) rfl (.dd (.dd (.dd .nil))) (.frz [25, 0] (Frz.of_erase (erase_slo _ _ _ _ _ _ Iv.c_e)) .nil) rfl <| .as rfl <| .z <| .seq <| .rs fun k16 => .g (fun _ τ => ⟨_, .buildSlice (.no rfl) rfl (els := []) t79 rfl z112 rfl rfl rfl rfl rfl rfl rfl rfl (by simp [i112]) .nil rfl rfl rfl τ⟩) <| .as rfl <| .z ?_
  refine .seq <| .seq <| .rs fun k17 => .as rfl <| .z <| .block ?_
  refine .loop (X := Nat × Nat × Nat) (fun ζ => .of [(2, .one (.d (.sl false 2 1 (List.map i64c (l))))), (3, .one (.ptr [3] (k6) 0)), (6, .one (.ptr [6] (k6 + 1 + 1) 0)), (7, .one (.d (.sl false 112 2 (List.map Iv.c (a.ints ++ a.arrs))))), (8, .one (.d (.sl false 112 2 (List.map Iv.c (b.ints ++ b.arrs))))), (9, .one (.ref [26] (ζ.2.1))), (10, .one (.d (.v (.int .i64 ((ζ.1 : Int))))))] [([3], (k6, k6, .box [.d (.v (.bool (a.live))), .d (.sl false 112 2 (List.map Iv.c (a.ints))), .d (.sl false 112 2 (List.map Iv.c (a.arrs)))])), ([6], (k6 + 1 + 1, k6 + 1 + 1, .box [.d (.v (.bool (false))), .d (.v (.slice none 0 0)), .d (.v (.slice none 0 0))])), ([26], (ζ.2.1, ζ.2.2, .row 112 2 (List.map Iv.c (zip2To (fun x y => Iv.widenOk l x y) (a.ints ++ a.arrs) (b.ints ++ b.arrs) ζ.1))))]) (fun ζ => ζ.1 ≤ (a.ints ++ a.arrs).length) (fun ζ => (a.ints ++ a.arrs).length - ζ.1) ?_ ?_
  ·skip
   exact .here (0, k16, k16) (.of (.cons rfl (.cons rfl (.cons rfl (.cons rfl (.cons rfl (.cons rfl (.cons (svI (show (0) = ((0 : Int)) by first | rfl | omega | exact wrap_le (by omega) (by omega) | (rw [wrap_le (by omega) (by omega)]; omega))) .nil))))))) (.cons rfl (.cons rfl (.cons (rowE (show [] = List.map Iv.c (zip2To (fun x y => Iv.widenOk l x y) (a.ints ++ a.arrs) (b.ints ++ b.arrs) 0) by first | rfl | exact congrArg _ (zip2To_step (fun x y => Iv.widenOk l x y) _ _ _))) .nil)))) (show 0 ≤ (a.ints ++ a.arrs).length by omega)
  ·rintro ⟨j, q18, q19⟩ hI
   have hI : j ≤ (a.ints ++ a.arrs).length := hI
   have hn9 : (a.ints ++ a.arrs).length ≤ 3145728 := by simp; omega
   have hn8 : (a.ints ++ a.arrs).length = (b.ints ++ b.arrs).length := by have := hj c0.1 c0.2; simp; omega
   have hn7 := zip2To_len (fun x y => Iv.widenOk l x y) (a.ints ++ a.arrs) (b.ints ++ b.arrs) j
   dsimp only
   refine .seq <| .seq <| .rs fun k20 => .mv rfl <| .mv rfl <| .g (fun _ τ => ⟨_, .len (.no rfl) rfl (z := ((a.ints ++ a.arrs).length : Int)) t79 rfl rfl rfl (.d _ _) (map_len _ _) rfl τ⟩) <| .bi rfl <| .z ?_
   refine .cond (t := decide ((j : Int) < ((a.ints ++ a.arrs).length : Int))) rfl (fun c1 => ?_) (fun c1 => ?_)
   ·have c1 := of_decide_eq_true c1
    refine .skip <| .seq <| .block ?_
    refine .regD (X := Nat) (by kernel_rfl) (fun ζ => .of [(2, .one (.d (.sl false 2 1 (List.map i64c (l))))), (3, .one (.ptr [3] (k6) 0)), (6, .one (.ptr [6] (k6 + 1 + 1) 0)), (7, .one (.d (.sl false 112 2 (List.map Iv.c (a.ints ++ a.arrs))))), (8, .one (.d (.sl false 112 2 (List.map Iv.c (b.ints ++ b.arrs))))), (9, .one (.ref [26] (ζ))), (10, .one (.d (.v (.int .i64 ((j : Int))))))] [([3], (k6, k6, .box [.d (.v (.bool (a.live))), .d (.sl false 112 2 (List.map Iv.c (a.ints))), .d (.sl false 112 2 (List.map Iv.c (a.arrs)))])), ([6], (k6 + 1 + 1, k6 + 1 + 1, .box [.d (.v (.bool (false))), .d (.v (.slice none 0 0)), .d (.v (.slice none 0 0))])), ([26], (ζ, ζ, .row 112 2 (List.map Iv.c (zip2To (fun x y => Iv.widenOk l x y) (a.ints ++ a.arrs) (b.ints ++ b.arrs) j ++ [(Iv.widenOk l ((a.ints ++ a.arrs).getD (j) default) ((b.ints ++ b.arrs).getD (j) default))]))))]) [⟨[9], some 33, [], []⟩, ⟨[7], some 34, [], []⟩, ⟨[10], some 35, [], []⟩, ⟨[34, 35], some 36, [], []⟩, ⟨[36], some 37, [], []⟩, ⟨[8], some 38, [], []⟩, ⟨[10], some 39, [], []⟩, ⟨[38, 39], some 40, [], []⟩, ⟨[40], some 41, [], []⟩, ⟨[2], some 42, [], []⟩, ⟨[37, 41, 42], some 43, [], []⟩, ⟨[43], some 44, [], [[44]]⟩, ⟨[33, 44], some 45, [[26], [44]], [[44], [26]]⟩, ⟨[45], some 9, [], []⟩] (by kernel_rfl) (fun k21 => ?_) ?_
    ·skip
     refine .move (.no rfl) rfl rfl rfl rfl <| .move (.no rfl) rfl rfl rfl rfl <| .move (.no rfl) rfl rfl rfl rfl <| .indexAddr (.no rfl) rfl (j) t79 rfl t112 rfl rfl rfl (.d _ _) rfl rfl rfl (map_get (by omega)) rfl rfl <| .load (.no rfl) rfl t112 rfl rfl (.d _) rfl rfl rfl rfl <| .move (.no rfl) rfl rfl rfl rfl <| .move (.no rfl) rfl rfl rfl rfl <| .indexAddr (.no rfl) rfl (j) t79 rfl t112 rfl rfl rfl (.d _ _) rfl rfl rfl (map_get (by omega)) rfl rfl <| .load (.no rfl) rfl t112 rfl rfl (.d _) rfl rfl rfl rfl ?_
     refine .move (.no rfl) rfl rfl rfl rfl <| .call (.no rfl) rfl [] [] (c_sIvWiden ((a.ints ++ a.arrs).getD (j) default) ((b.ints ++ b.arrs).getD (j) default) l) rfl rfl rfl rfl rfl (.dd (.dd (.dd (.dd (.dd .nil))))) rfl rfl (fun h => absurd rfl h) (.own [43, 0] (.own [43, 1] .nil)) (.nil) rfl rfl rfl (by simp) rfl rfl rfl <| .buildSlice (.no rfl) rfl (els := [[.v (.int .i64 ((Iv.widenOk l ((a.ints ++ a.arrs).getD (j) default) ((b.ints ++ b.arrs).getD (j) default)).lo)), .v (.int .i64 ((Iv.widenOk l ((a.ints ++ a.arrs).getD (j) default) ((b.ints ++ b.arrs).getD (j) default)).hi))]]) t79 rfl z112 rfl rfl rfl rfl rfl rfl rfl rfl (by simp [i112]) (.cons _ _ _ _ _ _ (.d _) (.cons _ _ _ _ _ _ (.d _) .nil)) rfl rfl rfl ?_
     refine .append (.no rfl) rfl (l3 := List.map Iv.c (zip2To (fun x y => Iv.widenOk l x y) (a.ints ++ a.arrs) (b.ints ++ b.arrs) j ++ [(Iv.widenOk l ((a.ints ++ a.arrs).getD (j) default) ((b.ints ++ b.arrs).getD (j) default))])) t79 rfl z112 rfl rfl rfl rfl rfl rfl rfl rfl (.ref _ _ _ _ rfl) (.take _ _ _ _ _ rfl) rfl (by simp [i112]; omega) (map_snoc _ _ _) rfl rfl <| .assign (.no rfl) rfl rfl rfl rfl ?_
     exact .fin (k21 + 1 + 1 + 1 + 1 + 1 + 1 + 1 + 1 + 1 + 1 + 1 + 1) (.of (.r rfl) (.r rfl))
    intro g22
    refine .rs fun k23 => .mv rfl <| .bi rfl <| .as rfl <| .z ?_
    exact .here ((j + 1), g22, g22) (.of (.cons rfl (.cons rfl (.cons rfl (.cons rfl (.cons rfl (.cons rfl (.cons (svI (show (IntKind.wrap .i64 ((j : Int) + 1)) = (((j + 1) : Int)) by first | rfl | omega | exact wrap_le (by omega) (by omega) | (rw [wrap_le (by omega) (by omega)]; omega))) .nil))))))) (.cons rfl (.cons rfl (.cons (rowE (show List.map Iv.c (zip2To (fun x y => Iv.widenOk l x y) (a.ints ++ a.arrs) (b.ints ++ b.arrs) j ++ [(Iv.widenOk l ((a.ints ++ a.arrs).getD (j) default) ((b.ints ++ b.arrs).getD (j) default))]) = List.map Iv.c (zip2To (fun x y => Iv.widenOk l x y) (a.ints ++ a.arrs) (b.ints ++ b.arrs) (j + 1)) by first | rfl | exact congrArg _ (zip2To_step (fun x y => Iv.widenOk l x y) _ _ _))) .nil)))) ⟨(show (j + 1) ≤ (a.ints ++ a.arrs).length by omega), (show (a.ints ++ a.arrs).length - (j + 1) < (a.ints ++ a.arrs).length - j by omega)⟩
   ·have c1 := of_decide_eq_false c1
    refine .exit <| .seq <| .rs fun k24 => .mv rfl <| .fp t81 t79 rfl <| .ld t79 rfl (.ptr _ _ _ _ _ rfl) rfl <| .g (fun _ τ => ⟨_, .len (.no rfl) rfl (z := (a.ints.length : Int)) t79 rfl rfl rfl (.d _ _) (map_len _ _) rfl τ⟩) ?_
    refine .g (fun _ τ => ⟨_, .call (.no rfl) rfl [[26]] [([26], (q18, q19, .row 112 2 (List.map Iv.c (zip2To (fun x y => Iv.widenOk l x y) (a.ints ++ a.arrs) (b.ints ++ b.arrs) j))))] (c_l6Of (zip2To (fun x y => Iv.widenOk l x y) (a.ints ++ a.arrs) (b.ints ++ b.arrs) j) a.ints.length (by first | assumption | omega | (rw [zip2To_len]; simp at hI c1 ⊢; omega))) rfl rfl rfl rfl rfl (.cons (Reads.ref (Frz.of_erase (erase_slo _ _ _ _ _ _ Iv.c_e)) (.head _) (.head _)).gives (.dd .nil)) rfl rfl (fun _ => (ownCons (Owned.v _) (ownCons (Owned.map _ _ _ _ Iv.c_o) (ownCons (Owned.map _ _ _ _ Iv.c_o) ownNil)))) (.own [50, 0] (.own [50, 1] (.own [50, 2] .nil))) (.nil) rfl rfl rfl (AllH.get (.r rfl)) rfl rfl rfl τ⟩) <| .g (fun _ τ => ⟨_, .store (.no rfl) rfl t81 rfl rfl rfl rfl rfl rfl rfl rfl rfl τ⟩) <| .z <| .ret ?_
    have e25 : ((Env.mk true ((zip2To (fun x y => Iv.widenOk l x y) (a.ints ++ a.arrs) (b.ints ++ b.arrs) j).take a.ints.length) ((zip2To (fun x y => Iv.widenOk l x y) (a.ints ++ a.arrs) (b.ints ++ b.arrs) j).drop a.ints.length)).live) = ((Env.joinW (fun x y => Iv.widenOk l x y) a b).live) := by (have hj9 := hj c0.1 c0.2; first | (rw [Env.joinW_live c0]; done) | skip; rw [Env.joinW_live c0]; first | rfl | (rw [zip2To_all (fun x y => Iv.widenOk l x y) hI (by omega)]; exact zip2_take _ hj9.1) | (rw [zip2To_all (fun x y => Iv.widenOk l x y) hI (by omega)]; exact zip2_drop _ hj9.1))
    have e26 : ((Env.mk true ((zip2To (fun x y => Iv.widenOk l x y) (a.ints ++ a.arrs) (b.ints ++ b.arrs) j).take a.ints.length) ((zip2To (fun x y => Iv.widenOk l x y) (a.ints ++ a.arrs) (b.ints ++ b.arrs) j).drop a.ints.length)).ints) = ((Env.joinW (fun x y => Iv.widenOk l x y) a b).ints) := by (have hj9 := hj c0.1 c0.2; first | (rw [Env.joinW_live c0]; done) | skip; rw [Env.joinW_live c0]; first | rfl | (rw [zip2To_all (fun x y => Iv.widenOk l x y) hI (by omega)]; exact zip2_take _ hj9.1) | (rw [zip2To_all (fun x y => Iv.widenOk l x y) hI (by omega)]; exact zip2_drop _ hj9.1))
    have e27 : ((Env.mk true ((zip2To (fun x y => Iv.widenOk l x y) (a.ints ++ a.arrs) (b.ints ++ b.arrs) j).take a.ints.length) ((zip2To (fun x y => Iv.widenOk l x y) (a.ints ++ a.arrs) (b.ints ++ b.arrs) j).drop a.ints.length)).arrs) = ((Env.joinW (fun x y => Iv.widenOk l x y) a b).arrs) := by (have hj9 := hj c0.1 c0.2; first | (rw [Env.joinW_live c0]; done) | skip; rw [Env.joinW_live c0]; first | rfl | (rw [zip2To_all (fun x y => Iv.widenOk l x y) hI (by omega)]; exact zip2_take _ hj9.1) | (rw [zip2To_all (fun x y => Iv.widenOk l x y) hI (by omega)]; exact zip2_drop _ hj9.1))
    have hc28 := eq1 (fun z1 => some (k6 + 1 + 1, k24 + 1 + 1 + 1 + 1 + 1, O.box [.d (.v (.bool (z1))), .ref [50, 1] (k24 + 1 + 1 + 1 + 1), .ref [50, 2] (k24 + 1 + 1 + 1 + 1)])) e25
    exact fin1 (.inr rfl) [] [([50, 1], (k24 + 1 + 1 + 1 + 1, k24 + 1 + 1 + 1 + 1, .row 112 2 (List.map Iv.c ((Env.joinW (fun x y => Iv.widenOk l x y) a b).ints)))), ([50, 2], (k24 + 1 + 1 + 1 + 1, k24 + 1 + 1 + 1 + 1, .row 112 2 (List.map Iv.c ((Env.joinW (fun x y => Iv.widenOk l x y) a b).arrs))))] (.cell (cells := [.d (.v (.bool ((Env.joinW (fun x y => Iv.widenOk l x y) a b).live))), .ref [50, 1] (k24 + 1 + 1 + 1 + 1), .ref [50, 2] (k24 + 1 + 1 + 1 + 1)]) rfl hc28 t81 rfl rfl .nil) (.dd (.cons (.ref (.head _)) (.cons (.ref (.tail _ (.head _))) .nil))) rfl rfl (.cons (rowE (congrArg (List.map Iv.c) e26)) (.cons (rowE (congrArg (List.map Iv.c) e27)) .nil))
end Go.Proofs

namespace Go.Proofs
open Go Go.Proofs Go.Ev

def i47 : TI := ⟨.sl 81, 1, 24, [.slice none 0 0]⟩
theorem t47 : TyOk Tryz.prog 47 i47 := ⟨Tryz.underlying47, by kernel_rfl⟩
theorem z47 : ZOk Tryz.prog 47 i47 := ⟨t47, rfl⟩
def i144 : TI := ⟨.int .u64, 1, 8, [.int .u64 0]⟩
theorem t144 : TyOk Tryz.prog 144 i144 := ⟨Tryz.underlying144, by kernel_rfl⟩
theorem z144 : ZOk Tryz.prog 144 i144 := ⟨t144, rfl⟩
def i150 : TI := ⟨.fn, 1, 8, [.nilFunc]⟩
theorem t150 : TyOk Tryz.prog 150 i150 := ⟨⟨_, _, _, Tryz.underlying150⟩, by kernel_rfl⟩
theorem z150 : ZOk Tryz.prog 150 i150 := ⟨t150, rfl⟩
theorem c_l8Size (d : Decl) : Trip Tryz.prog 76 [(true, 3)] (Decl.c33 d) [(false, 1)] [.v (.int .i64 (leavesOf d))] [] := by
 refine Trip.of Tryz.func76 (by decide) (c := _) rfl rfl (Nat.le_of_ble_eq_true rfl) rfl (AftOk.nil _) <| .sla (t := 0) 0 rfl rfl fun hs1l => .sla (t := 0) 1 rfl rfl fun hs2l => .sla (t := 0) 2 rfl rfl fun hs3l => .seq <| .rs fun k4 => .g (fun _ τ => ⟨_, .box (.no rfl) rfl rfl rfl rfl rfl τ⟩) <| .as rfl <| .z ?_
 refine .seq <| .rs fun k5 => .fp t33 t22 rfl <| .ld t22 rfl (.ptr _ _ _ _ _ rfl) rfl <| .g (fun _ τ => ⟨_, .len (.no rfl) rfl (z := (d.flags.length : Int)) t22 rfl rfl rfl (.d _ _) (map_len _ _) rfl τ⟩) <| .g (fun _ τ => ⟨_, .conv (.no rfl) rfl t3 t144 rfl rfl rfl rfl (wrap_u64 (by omega) (by omega)) rfl τ⟩) <| .g (fun _ τ => ⟨_, .shl (.no rfl) rfl rfl rfl rfl (by omega) rfl rfl τ⟩) <| .as rfl <| .z ?_
 refine .ret ?_
 exact fin0 (.inr rfl) (.one (svI (show (IntKind.wrap .i64 (1 * 2 ^ (min ((d.flags.length : Int)).toNat (IntKind.bits .i64)))) = (leavesOf d) by rfl)) .nil) (.dd .nil) rfl
theorem c_leaves (d : Decl) : Trip Tryz.prog 113 [(true, 3)] (Decl.c33 d) [(false, 1)] [.v (.int .i64 (leavesOf d))] [] := by
 refine Trip.of Tryz.func113 (by decide) (c := _) rfl rfl (Nat.le_of_ble_eq_true rfl) rfl (AftOk.nil _) <| .sla (t := 0) 0 rfl rfl fun hs1l => .sla (t := 0) 1 rfl rfl fun hs2l => .sla (t := 0) 2 rfl rfl fun hs3l => .seq <| .rs fun k4 => .g (fun _ τ => ⟨_, .box (.no rfl) rfl rfl rfl rfl rfl τ⟩) <| .as rfl <| .z ?_
 refine .seq <| .rs fun k5 => .fp t33 t22 rfl <| .ld t22 rfl (.ptr _ _ _ _ _ rfl) rfl <| .g (fun _ τ => ⟨_, .len (.no rfl) rfl (z := (d.flags.length : Int)) t22 rfl rfl rfl (.d _ _) (map_len _ _) rfl τ⟩) <| .g (fun _ τ => ⟨_, .shl (.no rfl) rfl rfl rfl rfl (by omega) rfl rfl τ⟩) <| .as rfl <| .z <| .ret ?_
 exact fin0 (.inr rfl) (.one (svI (show (IntKind.wrap .i64 (1 * 2 ^ (min ((d.flags.length : Int)).toNat (IntKind.bits .i64)))) = (leavesOf d) by rfl)) .nil) (.dd .nil) rfl
theorem c_sizeE (l : List Env) : Trip Tryz.prog 112 [(false, 1)] ([.sl false 81 3 (List.map Env.c81 (l))]) [(false, 1)] [.v (.int .i64 ((l.length : Int)))] [] := by
 refine Trip.of Tryz.func112 (by decide) (c := _) rfl rfl (Nat.le_of_ble_eq_true rfl) rfl (AftOk.nil _) <| .sl (t := 0) rfl fun hs1l => .seq <| .rs fun k2 => .as rfl <| .z <| .seq <| .rs fun k3 => .mv rfl ?_
 refine .g (fun _ τ => ⟨_, .len (.no rfl) rfl (z := (l.length : Int)) t47 rfl rfl rfl (.d _ _) (map_len _ _) rfl τ⟩) <| .as rfl <| .z <| .ret ?_
 exact fin0 (.inr rfl) (.one rfl .nil) (.dd .nil) rfl
theorem c_IndexFuncE (l : List Env) (F_p : FuncId) (first_p : List (Bool × List D)) (caps_p : List D) (p : Env → Bool) (h_p : ∀ (x0 : Env), FnTrip Tryz.prog F_p first_p caps_p [(true, 3)] (Env.c81 x0) [(false, 1)] [.v (.bool (p x0))]) : Trip Tryz.prog 164 [(false, 1), (false, 1)] ([.sl false 81 3 (List.map Env.c81 (l))] ++ [.fn F_p first_p caps_p]) [(false, 1)] [.v (.int .i64 (idx p l))] [] := by
 refine Trip.of Tryz.func164 (by decide) (c := _) rfl rfl (Nat.le_of_ble_eq_true rfl) rfl (AftOk.nil _) <| .sl (t := 0) rfl fun hs1l => .seq <| .rs fun k2 => .as rfl <| .z <| .seq <| .seq <| .rs fun k3 => ?_
 refine .mv rfl <| .g (fun _ τ => ⟨_, .len (.no rfl) rfl (z := (l.length : Int)) t47 rfl rfl rfl (.d _ _) (map_len _ _) rfl τ⟩) <| .mv rfl <| .z <| .block ?_
 refine .loop (X := Nat) (fun ζ => .of [(0, .one (.d (.sl false 81 3 (List.map Env.c81 (l))))), (1, .one (.d (.fn F_p first_p caps_p))), (7, .one (.d (.v (.int .i64 ((l.length : Int)))))), (8, .one (.d (.v (.int .i64 ((ζ : Int))))))] []) (fun ζ => ζ ≤ l.length ∧ allTo ζ (fun i => !p (l.getD i default)) = true) (fun ζ => l.length - ζ) ?_ ?_
 ·skip
  exact .here 0 (.of (.cons rfl (.cons rfl (.cons rfl (.cons (svI (show (0) = ((0 : Int)) by first | rfl | omega | exact wrap_le (by omega) (by omega) | (rw [wrap_le (by omega) (by omega)]; omega))) .nil)))) .nil) (show 0 ≤ l.length ∧ allTo 0 (fun i => !p (l.getD i default)) = true by exact ⟨by omega, rfl⟩)
 ·rintro j hI
  have hI : j ≤ l.length ∧ allTo j (fun i => !p (l.getD i default)) = true := hI
  refine .seq <| .rs fun k4 => .bi rfl <| .z <| .seq ?_
  refine .cond (t := decide ((j : Int) < (l.length : Int))) rfl (fun c0 => ?_) (fun c0 => ?_)
  ·have c0 := of_decide_eq_true c0
   refine .skip <| .seq <| .block <| .seq <| .rs fun k5 => .mv rfl <| .as rfl <| .z <| .seq ?_
   refine .rs fun k6 => .mv rfl <| .mv rfl <| .mv rfl <| .g (fun _ τ => ⟨_, .indexAddr (.no rfl) rfl (j) t47 rfl t81 rfl rfl rfl (.d _ _) rfl rfl rfl (map_get (by omega)) rfl rfl τ⟩) <| .lda t81 rfl (.d _) rfl <| .g (fun _ τ => ⟨_, .callF (.no rfl) rfl (ds := [.v (.bool ((l.getD j default).live)), .sl false 112 2 (List.map Iv.c ((l.getD j default).ints)), .sl false 112 2 (List.map Iv.c ((l.getD j default).arrs))]) (h_p (l.getD j default)) rfl rfl rfl rfl (.own [16, 0] .nil) rfl rfl rfl rfl rfl rfl τ⟩) <| .z ?_
   refine .cond (t := p (l.getD j default)) rfl (fun c1 => ?_) (fun c1 => ?_)
   ·have c1 := c1
    refine .seq <| .rs fun k7 => .mv rfl <| .as rfl <| .z <| .ret ?_
    exact fin0 (.inr rfl) (.one (svI (show ((j : Int)) = (idx p l) by exact (idx_found (j := j) (by omega) hI.2 (by simpa using c1)).symm)) .nil) (.dd .nil) rfl
   ·have c1 := c1
    refine .skip <| .rs fun k9 => .bi rfl <| .mv rfl <| .z ?_
    exact .here (j + 1) (.of (.cons rfl (.cons rfl (.cons rfl (.cons (svI (show (IntKind.wrap .i64 ((j : Int) + 1)) = (((j + 1) : Int)) by first | rfl | omega | exact wrap_le (by omega) (by omega) | (rw [wrap_le (by omega) (by omega)]; omega))) .nil)))) .nil) ⟨(show (j + 1) ≤ l.length ∧ allTo (j + 1) (fun i => !p (l.getD i default)) = true by exact ⟨by omega, allTo_step hI.2 (by simpa using c1)⟩), (show l.length - (j + 1) < l.length - j by omega)⟩
  ·have c0 := of_decide_eq_false c0
   refine .exit <| .seq <| .rs fun k10 => .as rfl <| .z <| .ret ?_
   exact fin0 (.inr rfl) (.one (svI (show (-1) = (idx p l) by exact (idx_none (by omega) hI.2).symm)) .nil) (.dd .nil) rfl
theorem c_ContainsFuncE (l : List Env) (F_p : FuncId) (first_p : List (Bool × List D)) (caps_p : List D) (p : Env → Bool) (h_p : ∀ (x0 : Env), FnTrip Tryz.prog F_p first_p caps_p [(true, 3)] (Env.c81 x0) [(false, 1)] [.v (.bool (p x0))]) : Trip Tryz.prog 137 [(false, 1), (false, 1)] ([.sl false 81 3 (List.map Env.c81 (l))] ++ [.fn F_p first_p caps_p]) [(false, 1)] [.v (.bool (l.any p))] [] := by
 refine Trip.of Tryz.func137 (by decide) (c := _) rfl rfl (Nat.le_of_ble_eq_true rfl) rfl (AftOk.nil _) <| .sl (t := 0) rfl fun hs1l => .seq <| .rs fun k2 => .as rfl <| .z <| .seq <| .rs fun k3 => .mv rfl ?_
 refine .mv rfl <| .c0 (c_IndexFuncE l F_p first_p caps_p p h_p) rfl (.dd (.dd .nil)) (.own [7, 0] .nil) rfl <| .bi rfl <| .as rfl <| .z <| .ret ?_
 exact fin0 (.inr rfl) (.one (svB (show (decide ((idx p l) ≥ 0)) = (l.any p) by exact idx_any _ _)) .nil) (.dd .nil) rfl
theorem c_areAll1E (x : Env) (F_p : FuncId) (first_p : List (Bool × List D)) (caps_p : List D) (p : Env → Bool) (h_p : ∀ (x0 : Env), FnTrip Tryz.prog F_p first_p caps_p [(true, 3)] (Env.c81 x0) [(false, 1)] [.v (.bool (p x0))]) : Trip Tryz.prog 149 [(true, 3), (false, 1)] (Env.c81 x ++ [.pt false [.fn F_p first_p caps_p]]) [(false, 1)] [.v (.bool (!p x))] [] := by
 refine Trip.of Tryz.func149 (by decide) (c := _) rfl rfl (Nat.le_of_ble_eq_true rfl) rfl (AftOk.nil _) <| .sla (t := 0) 1 rfl rfl fun hs1l => .sla (t := 0) 2 rfl rfl fun hs2l => .seq <| .rs fun k3 => .g (fun _ τ => ⟨_, .box (.no rfl) rfl rfl rfl rfl rfl τ⟩) <| .as rfl <| .z <| .seq ?_
 refine .rs fun k4 => .ld t150 rfl (.d _) rfl <| .lda t81 rfl (.ptr _ _ _ _ _ rfl) rfl <| .g (fun _ τ => ⟨_, .callF (.no rfl) rfl (ds := [.v (.bool (x.live)), .sl false 112 2 (List.map Iv.c (x.ints)), .sl false 112 2 (List.map Iv.c (x.arrs))]) (h_p x) rfl rfl rfl rfl (.own [6, 0] .nil) rfl rfl rfl rfl rfl rfl τ⟩) <| .un rfl <| .as rfl <| .z <| .ret ?_
 exact fin0 (.inr rfl) (.one (svB (show (!(p x)) = (!p x) by rfl)) .nil) (.dd .nil) rfl
theorem c_areAllE (l : List Env) (F_p : FuncId) (first_p : List (Bool × List D)) (caps_p : List D) (p : Env → Bool) (h_p : ∀ (x0 : Env), FnTrip Tryz.prog F_p first_p caps_p [(true, 3)] (Env.c81 x0) [(false, 1)] [.v (.bool (p x0))]) : Trip Tryz.prog 114 [(false, 1), (false, 1)] ([.sl false 81 3 (List.map Env.c81 (l))] ++ [.fn F_p first_p caps_p]) [(false, 1)] [.v (.bool (l.all p))] [] := by
 refine Trip.of Tryz.func114 (by decide) (c := _) rfl rfl (Nat.le_of_ble_eq_true rfl) rfl (AftOk.nil _) <| .sl (t := 0) rfl fun hs1l => .seq <| .rs fun k2 => .g (fun _ τ => ⟨_, .box (.no rfl) rfl rfl rfl rfl rfl τ⟩) <| .as rfl <| .z <| .seq <| .rs fun k3 => ?_
 refine .mv rfl <| .g (fun _ τ => ⟨_, .makeFunc (.no rfl) rfl rfl rfl rfl rfl τ⟩) <| .g (fun _ τ => ⟨_, .call (.no rfl) rfl [[3]] [([3], (k2, k2, .box [.d (.fn F_p first_p caps_p)]))] (c_ContainsFuncE l 149 [] [.pt false [.fn F_p first_p caps_p]] (fun x0 => !p x0) (fun x0 => c_areAll1E x0 F_p first_p caps_p p h_p)) rfl rfl rfl rfl rfl (.dd (.cons (Reads.clo0 (.cons (Reads.ptr0 (.head _) (.head _) (.cons (Reads.d _) .nil)) .nil)).gives .nil)) rfl rfl (fun _ => (ownCons (Owned.v _) ownNil)) (.own [7, 0] .nil) (.nil) rfl rfl rfl (AllH.get (.r rfl)) rfl rfl rfl τ⟩) <| .un rfl <| .as rfl <| .z <| .ret ?_
 exact fin0 (.inr rfl) (.one (svB (show (!(l.any (fun x0 => !p x0))) = (l.all p) by exact not_any _ _)) .nil) (.dd .nil) rfl
end Go.Proofs

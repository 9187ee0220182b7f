/- A symbolic executor over data by value, proved sound over any program: no conditions. -/
import Derived.Test.YtieoiccmlhjioaaGreatDoorE4
set_option linter.all false
set_option linter.unnecessarySimpa false
set_option linter.unusedSectionVars false
set_option linter.unusedSimpArgs false
set_option linter.unusedVariables false
namespace Go.Proofs
open Go Go.Ev
variable [Lay]
structure Rdr where
  b:List Int
  p:Int
deriving Inhabited
def Rdr.ok (b:List Int) (p:Int):Prop:=0≤p∧p≤b.length∧b.length≤1048576∧∀ x∈b,0≤x∧x≤255
theorem bytes_good {l:List Int} (h:∀ x∈l,(Lit.int .u8 x).wf=true):∀ x∈l,0≤x∧x≤255:=fun x hx=>by
  have h1:=h x hx
  simp only [Lit.wf,Bool.and_eq_true,decide_eq_true_eq] at h1
  have h2:IntKind.min .u8=0:=rfl
  have h3:IntKind.max .u8=255:=rfl
  omega
def nextV (b:List Int) (p:Int):Int:=if p≥b.length then 0 else b.getD p.toNat default
def nextP (b:List Int) (p:Int):Int:=if p≥b.length then p else p+1
variable {b:List Int} {p:Int}
theorem nextV_end (h:p≥b.length):nextV b p=0:=by unfold nextV; rw [if_pos h]
theorem nextP_end (h:p≥b.length):nextP b p=p:=by unfold nextP; rw [if_pos h]
theorem nextV_more (h:¬ p≥b.length):nextV b p=b.getD p.toNat default:=by unfold nextV; rw [if_neg h]
theorem nextP_more (h:¬ p≥b.length):nextP b p=p+1:=by unfold nextP; rw [if_neg h]
theorem Rdr.ok.next (h:Rdr.ok b p):Rdr.ok b (nextP b p):=by
  obtain ⟨h1,h2,h3,h4⟩:=h
  unfold nextP
  split
  · exact ⟨h1,h2,h3,h4⟩
  · exact ⟨by omega,by omega,h3,h4⟩
theorem nextV_bnd (h:Rdr.ok b p):0≤nextV b p∧nextV b p≤255:=by
  unfold nextV
  split
  · omega
  · exact h.2.2.2 _ (getD_mem (by have:=h.1; omega))
def belowV (b:List Int) (p n:Int):Int:=if n≤1 then 0 else if n≤256 then Int.tmod (nextV b p) n else Int.tmod (nextV b p * 256+nextV b (nextP b p)) n
def belowP (b:List Int) (p n:Int):Int:=if n≤1 then p else if n≤256 then nextP b p else nextP b (nextP b p)
theorem belowV_one {n:Int} (h:n≤1):belowV b p n=0:=by unfold belowV; rw [if_pos h]
theorem belowP_one {n:Int} (h:n≤1):belowP b p n=p:=by unfold belowP; rw [if_pos h]
theorem belowV_more {n:Int} (h:¬ n≤1) (h2:n≤256):belowV b p n=Int.tmod (nextV b p) n:=by unfold belowV; rw [if_neg h,if_pos h2]
theorem belowP_more {n:Int} (h:¬ n≤1) (h2:n≤256):belowP b p n=nextP b p:=by unfold belowP; rw [if_neg h,if_pos h2]
theorem belowV_two {n:Int} (h:¬ n≤1) (h2:¬ n≤256):belowV b p n=Int.tmod (nextV b p * 256+nextV b (nextP b p)) n:=by unfold belowV; rw [if_neg h,if_neg h2]
theorem belowV_two' {n:Int} (hr:Rdr.ok b p) (h:¬ n≤1) (h2:¬ n≤256):belowV b p n=Int.tmod (IntKind.wrap .i64 (IntKind.wrap .i64 (nextV b p * 256)+nextV b (nextP b p))) n:=by
  have h3:=nextV_bnd hr
  have h4:=nextV_bnd hr.next
  rw [belowV_two h h2,wrap_le (a:=nextV b p * 256) (by omega) (by omega),wrap_le (by omega) (by omega)]
theorem belowP_two {n:Int} (h:¬ n≤1) (h2:¬ n≤256):belowP b p n=nextP b (nextP b p):=by unfold belowP; rw [if_neg h,if_neg h2]
theorem Rdr.ok.below {n:Int} (h:Rdr.ok b p):Rdr.ok b (belowP b p n):=by
  unfold belowP; split
  · exact h
  · split
    · exact h.next
    · exact h.next.next
theorem belowV_bnd {n:Int} (h:Rdr.ok b p) (hn:1≤n):0≤belowV b p n∧belowV b p n < n:=by
  have h1:=nextV_bnd h
  have h2:=nextV_bnd h.next
  unfold belowV; split
  · omega
  · split
    · exact ⟨Int.tmod_nonneg _ h1.1,Int.tmod_lt_of_pos _ (by omega)⟩
    · exact ⟨Int.tmod_nonneg _ (by omega),Int.tmod_lt_of_pos _ (by omega)⟩
def onceV (b:List Int) (p n:Int):Bool:=belowV b p n == n - 1
theorem onceV_eq {n:Int} (h:0≤n∧n≤1048576):onceV b p n=(belowV b p n == IntKind.wrap .i64 (n - 1)):=by
  unfold onceV
  rw [wrap_le (by omega) (by omega)]
def nextsP (b:List Int) (p:Int):Nat→Int
  | 0=>p
  | j+1=>nextP b (nextsP b p j)
theorem Rdr.ok.nexts (h:Rdr.ok b p):∀ j,Rdr.ok b (nextsP b p j)
  | 0=>h
  | j+1=>(Rdr.ok.nexts h j).next
def wStep (x v:Int):Int:=IntKind.wrap .u64 ((BitVec.ofInt (IntKind.bits .u64) (IntKind.wrap .u64 (x * 2 ^ (min ((8:Int)).toNat (IntKind.bits .u64)))) ||| BitVec.ofInt (IntKind.bits .u64) (IntKind.wrap .u64 v)).toNat:Int)
def wordTo (b:List Int) (p:Int):Nat→Int
  | 0=>0
  | j+1=>wStep (wordTo b p j) (nextV b (nextsP b p j))
theorem wordTo_succ (j:Nat):IntKind.wrap .u64 ((BitVec.ofInt (IntKind.bits .u64) (IntKind.wrap .u64 ((wordTo b p j) * 2 ^ (min ((8:Int)).toNat (IntKind.bits .u64)))) ||| BitVec.ofInt (IntKind.bits .u64) (IntKind.wrap .u64 (nextV b (nextsP b p j)))).toNat:Int)=wordTo b p (j+1):=by
  show _=wStep (wordTo b p j) (nextV b (nextsP b p j))
  unfold wStep
  rfl
def wordV (b:List Int) (p:Int):Int:=wordTo b p 8
def wordP (b:List Int) (p:Int):Int:=nextsP b p 8
theorem Rdr.ok.word (h:Rdr.ok b p):Rdr.ok b (wordP b p):=h.nexts 8
theorem word_end {j:Nat} (h:j≤8) (h1:¬ (j:Int) < 8):wordTo b p j=wordV b p∧nextsP b p j=wordP b p:=by
  have:j=8:=by omega
  subst this
  exact ⟨rfl,rfl⟩
def Fit (x:Int):Prop:=-9223372036854775808≤x∧x≤9223372036854775807
theorem fit_wrap (x:Int):Fit (IntKind.wrap .i64 x):=by
  unfold Fit
  simp only [IntKind.wrap,IntKind.bits,IntKind.signed]
  simp
  split<;>omega
theorem wrap_u64_nn (x:Int):0≤IntKind.wrap .u64 x:=by
  simp only [IntKind.wrap,IntKind.bits,IntKind.signed]
  simp
  omega
theorem fit_shr {x:Int} (h:Fit x) (k:Nat):Fit (x.fdiv (2 ^ k)):=by
  have hp:(0:Int) < 2 ^ k:=Int.pow_pos (by omega)
  rw [Int.fdiv_eq_ediv_of_nonneg _ (Int.le_of_lt hp)]
  unfold Fit at h ⊢
  refine ⟨?_,?_⟩
  · refine Int.le_ediv_of_mul_le hp ?_
    have:(-9223372036854775808:Int) * 2 ^ k≤-9223372036854775808 * 1:=Int.mul_le_mul_of_nonpos_left (by omega) (by omega)
    omega
  · by_cases h0:0≤x
    · have:=Int.ediv_le_self (2 ^ k) h0
      omega
    · have:=Int.ediv_neg_of_neg_of_pos (a:=x) (b:=2 ^ k) (by omega) hp
      omega
def numL:List Int:=[-9223372036854775808,-9223372036854775807,9223372036854775807,9223372036854775806,-1,0,1,4294967296,-4294967296,3037000500]
def numV (b:List Int) (p:Int):Int :=
  if belowV b p 6=0 then numL.getD (belowV b (belowP b p 6) 10).toNat default
  else if belowV b p 6=1 then IntKind.wrap .i64 (wordV b (belowP b p 6))
  else if belowV b p 6=2 then (IntKind.wrap .i64 (wordV b (belowP b p 6))).fdiv (2 ^ (min (IntKind.wrap .u64 (belowV b (wordP b (belowP b p 6)) 60)).toNat (IntKind.bits .i64)))
  else IntKind.wrap .i64 (belowV b (belowP b p 6) 41 - 20)
def numP (b:List Int) (p:Int):Int :=
  if belowV b p 6=0 then belowP b (belowP b p 6) 10
  else if belowV b p 6=1 then wordP b (belowP b p 6)
  else if belowV b p 6=2 then belowP b (wordP b (belowP b p 6)) 60
  else belowP b (belowP b p 6) 41
theorem Rdr.ok.num (h:Rdr.ok b p):Rdr.ok b (numP b p):=by
  unfold numP
  repeat' split
  · exact h.below.below
  · exact h.below.word
  · exact h.below.word.below
  · exact h.below.below
theorem num_fit (h:Rdr.ok b p):Fit (numV b p):=by
  unfold numV
  repeat' split
  · have h1:=belowV_bnd (n:=10) (h.below (n:=6)) (by omega)
    have h2:numL.getD (belowV b (belowP b p 6) 10).toNat default∈numL:=getD_mem (by simp [numL]; omega)
    have h3:∀ x∈numL,Fit x:=by unfold numL Fit; decide
    exact h3 _ h2
  · exact fit_wrap _
  · exact fit_shr (fit_wrap _) _
  · exact fit_wrap _
theorem num_0 (h:belowV b p 6=0):numV b p=numL.getD (belowV b (belowP b p 6) 10).toNat default∧numP b p=belowP b (belowP b p 6) 10:=by
  unfold numV numP; rw [if_pos h,if_pos h]; exact ⟨rfl,rfl⟩
theorem num_1 (h0:¬ belowV b p 6=0) (h:belowV b p 6=1):numV b p=IntKind.wrap .i64 (wordV b (belowP b p 6))∧numP b p=wordP b (belowP b p 6):=by
  unfold numV numP; rw [if_neg h0,if_neg h0,if_pos h,if_pos h]; exact ⟨rfl,rfl⟩
theorem num_2 (h0:¬ belowV b p 6=0) (h1:¬ belowV b p 6=1) (h:belowV b p 6=2):numV b p=(IntKind.wrap .i64 (wordV b (belowP b p 6))).fdiv (2 ^ (min (IntKind.wrap .u64 (belowV b (wordP b (belowP b p 6)) 60)).toNat (IntKind.bits .i64)))∧numP b p=belowP b (wordP b (belowP b p 6)) 60:=by
  unfold numV numP; rw [if_neg h0,if_neg h0,if_neg h1,if_neg h1,if_pos h,if_pos h]; exact ⟨rfl,rfl⟩
theorem num_3 (h0:¬ belowV b p 6=0) (h1:¬ belowV b p 6=1) (h:¬ belowV b p 6=2):numV b p=IntKind.wrap .i64 (belowV b (belowP b p 6) 41 - 20)∧numP b p=belowP b (belowP b p 6) 41:=by
  unfold numV numP; rw [if_neg h0,if_neg h0,if_neg h1,if_neg h1,if_neg h,if_neg h]; exact ⟨rfl,rfl⟩
def addV (a c:Int):Int:=if (c > 0∧a > IntKind.wrap .i64 (9223372036854775807 - c))∨(c < 0∧a < IntKind.wrap .i64 (-9223372036854775808 - c)) then 0 else IntKind.wrap .i64 (a+c)
def addO (a c:Int):Int:=if c > 0∧a > IntKind.wrap .i64 (9223372036854775807 - c) then 1 else if c < 0∧a < IntKind.wrap .i64 (-9223372036854775808 - c) then -1 else 0
theorem add_1 {a c:Int} (h:c > 0∧a > IntKind.wrap .i64 (9223372036854775807 - c)):addV a c=0∧addO a c=1:=by
  unfold addV addO; rw [if_pos (.inl h),if_pos h]; exact ⟨rfl,rfl⟩
theorem add_2 {a c:Int} (h0:¬ c > 0∨¬ a > IntKind.wrap .i64 (9223372036854775807 - c)) (h:c < 0∧a < IntKind.wrap .i64 (-9223372036854775808 - c)):addV a c=0∧addO a c=-1:=by
  unfold addV addO; rw [if_pos (.inr h),if_neg (fun h9=>h0.elim (fun h8=>h8 h9.1) fun h8=>h8 h9.2),if_pos h]; exact ⟨rfl,rfl⟩
theorem add_3 {a c:Int} (h0:¬ c > 0∨¬ a > IntKind.wrap .i64 (9223372036854775807 - c)) (h:¬ c < 0∨¬ a < IntKind.wrap .i64 (-9223372036854775808 - c)):addV a c=IntKind.wrap .i64 (a+c)∧addO a c=0:=by
  have h1:¬ (c > 0∧a > IntKind.wrap .i64 (9223372036854775807 - c)):=fun h9=>h0.elim (fun h8=>h8 h9.1) fun h8=>h8 h9.2
  have h2:¬ (c < 0∧a < IntKind.wrap .i64 (-9223372036854775808 - c)):=fun h9=>h.elim (fun h8=>h8 h9.1) fun h8=>h8 h9.2
  unfold addV addO; rw [if_neg (fun h9=>h9.elim h1 h2),if_neg h1,if_neg h2]; exact ⟨rfl,rfl⟩
theorem add_fit (a c:Int):Fit (addV a c):=by
  unfold addV; split
  · unfold Fit; omega
  · exact fit_wrap _
def nearV (b:List Int) (p a h:Int):Int :=
  if belowV b p 8=0 then a else if belowV b p 8=1 then h else if h < a then a
  else IntKind.wrap .i64 (a+(IntKind.wrap .i64 (Int.tmod ((wordV b (belowP b p 8)).fdiv (2 ^ (min ((1:Int)).toNat (IntKind.bits .u64)))) (IntKind.wrap .u64 (IntKind.wrap .i64 ((IntKind.wrap .i64 (h - a))+1))))))
def nearP (b:List Int) (p a h:Int):Int:=if belowV b p 8=0 then belowP b p 8 else if belowV b p 8=1 then belowP b p 8 else if h < a then belowP b p 8 else wordP b (belowP b p 8)
theorem near_0 {a h:Int} (h0:belowV b p 8=0):nearV b p a h=a∧nearP b p a h=belowP b p 8:=by unfold nearV nearP; rw [if_pos h0,if_pos h0]; exact ⟨rfl,rfl⟩
theorem near_1 {a h:Int} (h0:¬ belowV b p 8=0) (h1:belowV b p 8=1):nearV b p a h=h∧nearP b p a h=belowP b p 8:=by unfold nearV nearP; rw [if_neg h0,if_neg h0,if_pos h1,if_pos h1]; exact ⟨rfl,rfl⟩
theorem near_2 {a h:Int} (h0:¬ belowV b p 8=0) (h1:¬ belowV b p 8=1) (h2:h < a):nearV b p a h=a∧nearP b p a h=belowP b p 8:=by unfold nearV nearP; rw [if_neg h0,if_neg h0,if_neg h1,if_neg h1,if_pos h2,if_pos h2]; exact ⟨rfl,rfl⟩
theorem near_3 {a h:Int} (h0:¬ belowV b p 8=0) (h1:¬ belowV b p 8=1) (h2:¬ h < a):nearV b p a h=IntKind.wrap .i64 (a+(IntKind.wrap .i64 (Int.tmod ((wordV b (belowP b p 8)).fdiv (2 ^ (min ((1:Int)).toNat (IntKind.bits .u64)))) (IntKind.wrap .u64 (IntKind.wrap .i64 ((IntKind.wrap .i64 (h - a))+1))))))∧nearP b p a h=wordP b (belowP b p 8):=by
  unfold nearV nearP; rw [if_neg h0,if_neg h0,if_neg h1,if_neg h1,if_neg h2,if_neg h2]; exact ⟨rfl,rfl⟩
theorem near_ne {a h:Int} (hx:-1000≤a∧a≤10000000∧-1000≤h∧h≤10000000) (h2:¬ h < a):IntKind.wrap .u64 (IntKind.wrap .i64 ((IntKind.wrap .i64 (h - a))+1))≠0:=by
  rw [wrap_le (a:=h - a) (by omega) (by omega),wrap_le (by omega) (by omega),wrap_u64 (by omega) (by omega)]
  omega
theorem Rdr.ok.near {a h:Int} (hr:Rdr.ok b p):Rdr.ok b (nearP b p a h):=by
  unfold nearP
  repeat' split
  all_goals first | exact hr.below | exact hr.below.word
def offL (a h:Int):List Int:=[IntKind.wrap .i64 (a - 1),IntKind.wrap .i64 (h+1),-9223372036854775808,9223372036854775807]
def offV (b:List Int) (p a h:Int):Int:=if onceV b p 24=true then (offL a h).getD (belowV b (belowP b p 24) 4).toNat default else nearV b (belowP b p 24) a h
def offP (b:List Int) (p a h:Int):Int:=if onceV b p 24=true then belowP b (belowP b p 24) 4 else nearP b (belowP b p 24) a h
theorem off_1 {a h:Int} (h0:onceV b p 24=true):offV b p a h=(offL a h).getD (belowV b (belowP b p 24) 4).toNat default∧offP b p a h=belowP b (belowP b p 24) 4:=by unfold offV offP; rw [if_pos h0,if_pos h0]; exact ⟨rfl,rfl⟩
theorem off_0 {a h:Int} (h0:onceV b p 24=false):offV b p a h=nearV b (belowP b p 24) a h∧offP b p a h=nearP b (belowP b p 24) a h:=by
  unfold offV offP; rw [if_neg (by rw [h0]; decide),if_neg (by rw [h0]; decide)]; exact ⟨rfl,rfl⟩
theorem Rdr.ok.off {a h:Int} (hr:Rdr.ok b p):Rdr.ok b (offP b p a h):=by
  unfold offP; split
  · exact hr.below.below
  · exact hr.below.near
def ivEnd (b:List Int) (x y p:Int):Iv:=if y < x∧onceV b p 12=false then ⟨y,x⟩ else ⟨x,y⟩
def ivEndP (b:List Int) (x y p:Int):Int:=if y < x then belowP b p 12 else p
def ivY (b:List Int) (x p:Int):Int:=if addV x (belowV b p 30) < x then x else addV x (belowV b p 30)
def ivV (b:List Int) (p:Int):Iv :=
  if belowV b (numP b p) 4=0 then ivEnd b (numV b p) (numV b (belowP b (numP b p) 4)) (numP b (belowP b (numP b p) 4))
  else if belowV b (numP b p) 4=1∨belowV b (numP b p) 4=2 then ivEnd b (numV b p) (ivY b (numV b p) (belowP b (numP b p) 4)) (belowP b (belowP b (numP b p) 4) 30)
  else ivEnd b (numV b p) (numV b p) (belowP b (numP b p) 4)
def ivP (b:List Int) (p:Int):Int :=
  if belowV b (numP b p) 4=0 then ivEndP b (numV b p) (numV b (belowP b (numP b p) 4)) (numP b (belowP b (numP b p) 4))
  else if belowV b (numP b p) 4=1∨belowV b (numP b p) 4=2 then ivEndP b (numV b p) (ivY b (numV b p) (belowP b (numP b p) 4)) (belowP b (belowP b (numP b p) 4) 30)
  else ivEndP b (numV b p) (numV b p) (belowP b (numP b p) 4)
def FitI (a:Iv):Prop:=Fit a.lo∧Fit a.hi
theorem ivEnd_sw {x y q:Int} (h:y < x∧onceV b q 12=false):ivEnd b x y q=⟨y,x⟩:=by unfold ivEnd; rw [if_pos h]
theorem ivEnd_no {x y q:Int} (h:¬ y < x∨onceV b q 12=true):ivEnd b x y q=⟨x,y⟩:=by unfold ivEnd; rw [if_neg (fun h9=>h.elim (fun h8=>h8 h9.1) fun h8=>by rw [h8] at h9; exact absurd h9.2 (by decide))]
theorem ivY_x {x q:Int} (h:addV x (belowV b q 30) < x):ivY b x q=x:=by unfold ivY; rw [if_pos h]
theorem ivY_y {x q:Int} (h:¬ addV x (belowV b q 30) < x):ivY b x q=addV x (belowV b q 30):=by unfold ivY; rw [if_neg h]
theorem ivV_0 (h:belowV b (numP b p) 4=0):ivV b p=ivEnd b (numV b p) (numV b (belowP b (numP b p) 4)) (numP b (belowP b (numP b p) 4)):=by unfold ivV; rw [if_pos h]
theorem ivP_0 (h:belowV b (numP b p) 4=0):ivP b p=ivEndP b (numV b p) (numV b (belowP b (numP b p) 4)) (numP b (belowP b (numP b p) 4)):=by unfold ivP; rw [if_pos h]
theorem ivV_1 (h0:¬ belowV b (numP b p) 4=0) (h:belowV b (numP b p) 4=1∨belowV b (numP b p) 4=2):ivV b p=ivEnd b (numV b p) (ivY b (numV b p) (belowP b (numP b p) 4)) (belowP b (belowP b (numP b p) 4) 30):=by unfold ivV; rw [if_neg h0,if_pos h]
theorem ivP_1 (h0:¬ belowV b (numP b p) 4=0) (h:belowV b (numP b p) 4=1∨belowV b (numP b p) 4=2):ivP b p=ivEndP b (numV b p) (ivY b (numV b p) (belowP b (numP b p) 4)) (belowP b (belowP b (numP b p) 4) 30):=by unfold ivP; rw [if_neg h0,if_pos h]
theorem ivV_2 (h0:¬ belowV b (numP b p) 4=0) (h1:¬ belowV b (numP b p) 4=1) (h2:¬ belowV b (numP b p) 4=2):ivV b p=ivEnd b (numV b p) (numV b p) (belowP b (numP b p) 4):=by unfold ivV; rw [if_neg h0,if_neg (fun h=>h.elim h1 h2)]
theorem ivP_2 (h0:¬ belowV b (numP b p) 4=0) (h1:¬ belowV b (numP b p) 4=1) (h2:¬ belowV b (numP b p) 4=2):ivP b p=ivEndP b (numV b p) (numV b p) (belowP b (numP b p) 4):=by unfold ivP; rw [if_neg h0,if_neg (fun h=>h.elim h1 h2)]
theorem ivEnd_fit {x y q:Int} (hx:Fit x) (hy:Fit y):FitI (ivEnd b x y q):=by
  unfold ivEnd
  split
  · exact ⟨hy,hx⟩
  · exact ⟨hx,hy⟩
theorem Rdr.ok.ivEnd {x y q:Int} (h:Rdr.ok b q):Rdr.ok b (ivEndP b x y q):=by
  unfold ivEndP; split
  · exact h.below
  · exact h
theorem iv_fit (h:Rdr.ok b p):FitI (ivV b p):=by
  have hx:=num_fit h
  unfold ivV
  repeat' split
  · exact ivEnd_fit hx (num_fit h.num.below)
  · refine ivEnd_fit hx ?_
    unfold ivY; split
    · exact hx
    · exact add_fit _ _
  · exact ivEnd_fit hx hx
theorem Rdr.ok.iv (h:Rdr.ok b p):Rdr.ok b (ivP b p):=by
  unfold ivP
  repeat' split
  · exact h.num.below.num.ivEnd
  · exact h.num.below.below.ivEnd
  · exact h.num.below.ivEnd
def smallV (b:List Int) (p:Int):Iv :=
  if onceV b p 6=true then ⟨min (ivV b (belowP b p 6)).lo (ivV b (belowP b p 6)).hi,max (ivV b (belowP b p 6)).lo (ivV b (belowP b p 6)).hi⟩
  else ⟨belowV b (belowP b p 6) 20 - 8,belowV b (belowP b p 6) 20 - 8+belowV b (belowP b (belowP b p 6) 20) 9⟩
def smallP (b:List Int) (p:Int):Int:=if onceV b p 6=true then ivP b (belowP b p 6) else belowP b (belowP b (belowP b p 6) 20) 9
theorem Rdr.ok.small (h:Rdr.ok b p):Rdr.ok b (smallP b p):=by
  unfold smallP; split
  · exact h.below.iv
  · exact h.below.below.below
theorem small_fit (h:Rdr.ok b p):FitI (smallV b p):=by
  unfold smallV; split
  · have:=iv_fit (h.below (n:=6))
    unfold FitI Fit at this ⊢
    simp only
    omega
  · have h1:=belowV_bnd (n:=20) (h.below (n:=6)) (by omega)
    have h2:=belowV_bnd (n:=9) ((h.below (n:=6)).below (n:=20)) (by omega)
    unfold FitI Fit
    simp only
    omega
theorem small_1 (h:onceV b p 6=true):smallV b p=⟨min (ivV b (belowP b p 6)).lo (ivV b (belowP b p 6)).hi,max (ivV b (belowP b p 6)).lo (ivV b (belowP b p 6)).hi⟩∧smallP b p=ivP b (belowP b p 6):=by
  unfold smallV smallP; rw [if_pos h,if_pos h]; exact ⟨rfl,rfl⟩
theorem small_2 (hr:Rdr.ok b p) (h:onceV b p 6=false):smallV b p=⟨IntKind.wrap .i64 (belowV b (belowP b p 6) 20 - 8),IntKind.wrap .i64 (IntKind.wrap .i64 (belowV b (belowP b p 6) 20 - 8)+belowV b (belowP b (belowP b p 6) 20) 9)⟩∧smallP b p=belowP b (belowP b (belowP b p 6) 20) 9:=by
  have h1:=belowV_bnd (n:=20) (hr.below (n:=6)) (by omega)
  have h2:=belowV_bnd (n:=9) ((hr.below (n:=6)).below (n:=20)) (by omega)
  unfold smallV smallP; rw [if_neg (by rw [h]; decide),if_neg (by rw [h]; decide),wrap_le (a:=belowV b (belowP b p 6) 20 - 8) (by omega) (by omega),wrap_le (by omega) (by omega)]; exact ⟨rfl,rfl⟩
def smP (b:List Int) (p:Int):Nat→Int
  | 0=>p
  | j+1=>smallP b (smP b p j)
def smL (b:List Int) (p:Int):Nat→List Iv
  | 0=>[]
  | j+1=>smL b p j++[smallV b (smP b p j)]
theorem Rdr.ok.sm (h:Rdr.ok b p):∀ j,Rdr.ok b (smP b p j)
  | 0=>h
  | j+1=>(Rdr.ok.sm h j).small
theorem smL_len (b:List Int) (p:Int):∀ j,(smL b p j).length=j
  | 0=>rfl
  | j+1=>by simp [smL,smL_len b p j]
theorem smL_fit (h:Rdr.ok b p):∀ j,∀ x∈smL b p j,FitI x
  | 0,x,hx=>by simp [smL] at hx
  | j+1,x,hx=>by
    simp only [smL,List.mem_append,List.mem_singleton] at hx
    rcases hx with hx | rfl
    · exact smL_fit h j x hx
    · exact small_fit (Rdr.ok.sm h j)
def envV (b:List Int) (p:Int) (d:Decl):Env :=
  if onceV b p 16=true then ⟨false,[],[]⟩ else ⟨true,smL b (belowP b p 16) d.vars.length,smL b (smP b (belowP b p 16) d.vars.length) d.arrays.length⟩
def envP (b:List Int) (p:Int) (d:Decl):Int :=
  if onceV b p 16=true then belowP b p 16 else smP b (smP b (belowP b p 16) d.vars.length) d.arrays.length
theorem env_1 {d:Decl} (h:onceV b p 16=true):envV b p d=⟨false,[],[]⟩∧envP b p d=belowP b p 16:=by
  unfold envV envP; rw [if_pos h,if_pos h]; exact ⟨rfl,rfl⟩
theorem env_2 {d:Decl} {j k:Nat} (h:onceV b p 16=false) (hj:j≤d.vars.length) (hj2:¬ (j:Int) < d.vars.length) (hk:k≤d.arrays.length) (hk2:¬ (k:Int) < d.arrays.length) :
    envV b p d=⟨true,smL b (belowP b p 16) j,smL b (smP b (belowP b p 16) d.vars.length) k⟩∧envP b p d=smP b (smP b (belowP b p 16) d.vars.length) k:=by
  obtain rfl:j=d.vars.length:=by omega
  obtain rfl:k=d.arrays.length:=by omega
  unfold envV envP; rw [if_neg (by rw [h]; decide),if_neg (by rw [h]; decide)]; exact ⟨rfl,rfl⟩
theorem Rdr.ok.env {d:Decl} (h:Rdr.ok b p):Rdr.ok b (envP b p d):=by
  unfold envP; split
  · exact h.below
  · exact (h.below.sm _).sm _
def FitE (e:Env):Prop:=(∀ x∈e.ints,FitI x)∧∀ x∈e.arrs,FitI x
theorem env_fit {d:Decl} (h:Rdr.ok b p):FitE (envV b p d):=by
  unfold envV; split
  · exact ⟨by simp,by simp⟩
  · exact ⟨smL_fit h.below _,smL_fit (h.below.sm _) _⟩
theorem env_len {d:Decl}:(envV b p d).ints.length≤d.vars.length∧(envV b p d).arrs.length≤d.arrays.length:=by
  unfold envV; split
  · simp
  · simp [smL_len]
def hurtP (b:List Int) (p:Int):Int:=belowP b p 24
def hurtV (b:List Int) (p:Int) (e:Env):Env :=
  if belowV b p 24=0 then ⟨!e.live,e.ints,e.arrs⟩
  else if belowV b p 24=1 then ⟨e.live,e.ints++[⟨0,0⟩],e.arrs⟩
  else if belowV b p 24=2 then ⟨e.live,e.ints.set 0 ⟨1,0⟩,e.arrs⟩
  else e
theorem hurt_len {e:Env}:(hurtV b p e).ints.length≤e.ints.length+1∧(hurtV b p e).arrs.length≤e.arrs.length:=by
  unfold hurtV
  repeat' split
  all_goals simp
theorem hurt_fit {e:Env} (h:FitE e):FitE (hurtV b p e):=by
  unfold hurtV
  repeat' split
  · exact h
  · refine ⟨fun x hx=>?_,h.2⟩
    simp only [List.mem_append,List.mem_singleton] at hx
    rcases hx with hx | rfl
    · exact h.1 x hx
    · unfold FitI Fit; simp
  · refine ⟨fun x hx=>?_,h.2⟩
    rcases List.mem_or_eq_of_mem_set hx with hx | rfl
    · exact h.1 x hx
    · unfold FitI Fit; simp
  · exact h
theorem hurt_0 {e:Env} (h:belowV b p 24=0):hurtV b p e=⟨!e.live,e.ints,e.arrs⟩:=by unfold hurtV; rw [if_pos h]
theorem hurt_1 {e:Env} (h0:¬ belowV b p 24=0) (h:belowV b p 24=1):hurtV b p e=⟨e.live,e.ints++[⟨0,0⟩],e.arrs⟩:=by unfold hurtV; rw [if_neg h0,if_pos h]
theorem hurt_2 {e:Env} (h0:¬ belowV b p 24=0) (h1:¬ belowV b p 24=1) (h:belowV b p 24=2):hurtV b p e=⟨e.live,e.ints.set 0 ⟨1,0⟩,e.arrs⟩:=by unfold hurtV; rw [if_neg h0,if_neg h1,if_pos h]
theorem hurt_3 {e:Env} (h0:¬ belowV b p 24=0) (h1:¬ belowV b p 24=1) (h:belowV b p 24=2) (hn:¬ (e.ints.length:Int) > 0):hurtV b p e=⟨e.live,e.ints,e.arrs⟩:=by
  rw [hurt_2 h0 h1 h]
  have:e.ints=[]:=List.eq_nil_of_length_eq_zero (by omega)
  rw [this]; rfl
theorem hurt_4 {e:Env} (h0:¬ belowV b p 24=0) (h1:¬ belowV b p 24=1) (h:¬ belowV b p 24=2):hurtV b p e=⟨e.live,e.ints,e.arrs⟩:=by unfold hurtV; rw [if_neg h0,if_neg h1,if_neg h]
theorem Rdr.ok.hurt (h:Rdr.ok b p):Rdr.ok b (hurtP b p):=h.below
def varsL:List ByteArray:=[⟨#[120]⟩,⟨#[121]⟩,⟨#[105]⟩,⟨#[110]⟩,⟨#[107]⟩]
def flagsL:List ByteArray:=[⟨#[98]⟩,⟨#[99]⟩,⟨#[102]⟩]
def dcP1 (b:List Int) (p:Int):Int:=belowP b p 4
def dcP2 (b:List Int) (p:Int):Int:=belowP b (dcP1 b p) 2
def dcP3 (b:List Int) (p:Int):Int:=belowP b (dcP2 b p) 3
def dcP4 (b:List Int) (p:Int):Int:=if onceV b (dcP2 b p) 3=true then belowP b (dcP3 b p) 4 else dcP3 b p
def dcP5 (b:List Int) (p:Int):Int:=belowP b (dcP4 b p) 2
def declP (b:List Int) (p:Int):Int:=if onceV b (dcP4 b p) 2=true then belowP b (dcP5 b p) 6 else dcP5 b p
def declV (b:List Int) (p:Int):Decl :=
  ⟨varsL.take (1+belowV b p 4).toNat,
   if onceV b (dcP2 b p) 3=true then flagsL.take (belowV b (dcP3 b p) 4).toNat else flagsL.take (1+belowV b (dcP1 b p) 2).toNat,
   if onceV b (dcP4 b p) 2=true then [⟨⟨#[97]⟩,1+belowV b (dcP5 b p) 6⟩] else []⟩
theorem Rdr.ok.decl (h:Rdr.ok b p):Rdr.ok b (dcP1 b p)∧Rdr.ok b (dcP2 b p)∧Rdr.ok b (dcP3 b p)∧Rdr.ok b (dcP4 b p)∧Rdr.ok b (dcP5 b p)∧Rdr.ok b (declP b p):=by
  have h1:Rdr.ok b (dcP1 b p):=h.below
  have h2:Rdr.ok b (dcP2 b p):=h1.below
  have h3:Rdr.ok b (dcP3 b p):=h2.below
  have h4:Rdr.ok b (dcP4 b p):=by
    unfold dcP4; split
    · exact h3.below
    · exact h3
  have h5:Rdr.ok b (dcP5 b p):=h4.below
  refine ⟨h1,h2,h3,h4,h5,?_⟩
  unfold declP; split
  · exact h5.below
  · exact h5
theorem dcP4_1 (h0:onceV b (dcP2 b p) 3=true):dcP4 b p=belowP b (dcP3 b p) 4:=by unfold dcP4; rw [if_pos h0]
theorem dcP4_0 (h0:onceV b (dcP2 b p) 3=false):dcP4 b p=dcP3 b p:=by unfold dcP4; rw [if_neg (by rw [h0]; decide)]
theorem decl_11 (h0:onceV b (dcP2 b p) 3=true) (h9:onceV b (belowP b (dcP3 b p) 4) 2=true):declV b p=⟨varsL.take (1+belowV b p 4).toNat,flagsL.take (belowV b (dcP3 b p) 4).toNat,[⟨⟨#[97]⟩,1+belowV b (belowP b (belowP b (dcP3 b p) 4) 2) 6⟩]⟩∧declP b p=belowP b (belowP b (belowP b (dcP3 b p) 4) 2) 6:=by
  have h1:onceV b (dcP4 b p) 2=true:=by rw [dcP4_1 h0]; exact h9
  have e:dcP4 b p=belowP b (dcP3 b p) 4:=by unfold dcP4; rw [if_pos h0]
  unfold declV declP; rw [if_pos h0,if_pos h1,if_pos h1]; unfold dcP5; rw [e]; exact ⟨rfl,rfl⟩
theorem decl_10 (h0:onceV b (dcP2 b p) 3=true) (h9:onceV b (belowP b (dcP3 b p) 4) 2=false):declV b p=⟨varsL.take (1+belowV b p 4).toNat,flagsL.take (belowV b (dcP3 b p) 4).toNat,[]⟩∧declP b p=belowP b (belowP b (dcP3 b p) 4) 2:=by
  have h1:onceV b (dcP4 b p) 2=false:=by rw [dcP4_1 h0]; exact h9
  have e:dcP4 b p=belowP b (dcP3 b p) 4:=by unfold dcP4; rw [if_pos h0]
  unfold declV declP; rw [if_pos h0,if_neg (by rw [h1]; decide),if_neg (by rw [h1]; decide)]; unfold dcP5; rw [e]; exact ⟨rfl,rfl⟩
theorem decl_01 (h0:onceV b (dcP2 b p) 3=false) (h9:onceV b (dcP3 b p) 2=true):declV b p=⟨varsL.take (1+belowV b p 4).toNat,flagsL.take (1+belowV b (dcP1 b p) 2).toNat,[⟨⟨#[97]⟩,1+belowV b (belowP b (dcP3 b p) 2) 6⟩]⟩∧declP b p=belowP b (belowP b (dcP3 b p) 2) 6:=by
  have h1:onceV b (dcP4 b p) 2=true:=by rw [dcP4_0 h0]; exact h9
  have e:dcP4 b p=dcP3 b p:=by unfold dcP4; rw [if_neg (by rw [h0]; decide)]
  unfold declV declP; rw [if_neg (by rw [h0]; decide),if_pos h1,if_pos h1]; unfold dcP5; rw [e]; exact ⟨rfl,rfl⟩
theorem decl_00 (h0:onceV b (dcP2 b p) 3=false) (h9:onceV b (dcP3 b p) 2=false):declV b p=⟨varsL.take (1+belowV b p 4).toNat,flagsL.take (1+belowV b (dcP1 b p) 2).toNat,[]⟩∧declP b p=belowP b (dcP3 b p) 2:=by
  have h1:onceV b (dcP4 b p) 2=false:=by rw [dcP4_0 h0]; exact h9
  have e:dcP4 b p=dcP3 b p:=by unfold dcP4; rw [if_neg (by rw [h0]; decide)]
  unfold declV declP; rw [if_neg (by rw [h0]; decide),if_neg (by rw [h1]; decide),if_neg (by rw [h1]; decide)]; unfold dcP5; rw [e]; exact ⟨rfl,rfl⟩
theorem one_norm (h:Rdr.ok b p) {n:Int} (h1:1≤n) (h2:n≤100):IntKind.wrap .i64 (1+belowV b p n)=1+belowV b p n:=by
  have h9:=belowV_bnd h h1
  exact wrap_le (by omega) (by omega)
theorem hund_norm (h:Rdr.ok b p):IntKind.wrap .i64 (100+belowV b p 2)=100+belowV b p 2:=by
  have h9:=belowV_bnd (n:=2) h (by omega)
  exact wrap_le (by omega) (by omega)
theorem down_norm {j:Nat} (h:Rdr.ok b p) (hj:(j:Int)≤belowV b p 7):IntKind.wrap .i64 (belowV b p 7 - (j:Int) - 1)=belowV b p 7 - ((j+1:Nat):Int):=by
  have h9:=belowV_bnd (n:=7) h (by omega)
  rw [wrap_le (by omega) (by omega)]; omega
theorem Rdr.ok.declP (h:Rdr.ok b p):Rdr.ok b (declP b p):=h.decl.2.2.2.2.2
theorem decl_len:(declV b p).vars.length≤5∧(declV b p).flags.length≤3∧(declV b p).arrays.length≤1:=by
  unfold declV varsL flagsL
  refine ⟨?_,?_,?_⟩
  · simp; omega
  · simp only; split<;>simp<;>omega
  · simp only; split<;>simp
theorem decl_names:∀ x∈Decl.names (declV b p),x.size≤9223372036854775807:=by
  have h1:∀ x∈varsL,x.size≤9223372036854775807:=by decide
  have h2:∀ x∈flagsL,x.size≤9223372036854775807:=by decide
  intro x hx
  unfold Decl.names declV at hx
  simp only [List.mem_append,List.mem_map] at hx
  rcases hx with (hx | hx) | ⟨y,hy,rfl⟩
  · exact h1 x (List.mem_of_mem_take hx)
  · split at hx
    · exact h2 x (List.mem_of_mem_take hx)
    · exact h2 x (List.mem_of_mem_take hx)
  · split at hy
    · simp only [List.mem_singleton] at hy
      subst hy
      have:((⟨#[97]⟩:ByteArray)).size=1:=rfl
      show ((⟨#[97]⟩:ByteArray)).size≤_
      omega
    · simp at hy
def nmP (b:List Int) (p:Int):Nat→Int
  | 0=>p
  | j+1=>numP b (nmP b p j)
def nmL (b:List Int) (p:Int):Nat→List Int
  | 0=>[]
  | j+1=>nmL b p j++[numV b (nmP b p j)]
theorem Rdr.ok.nm (h:Rdr.ok b p):∀ j,Rdr.ok b (nmP b p j)
  | 0=>h
  | j+1=>(Rdr.ok.nm h j).num
theorem nmL_len (b:List Int) (p:Int):∀ j,(nmL b p j).length=j
  | 0=>rfl
  | j+1=>by simp [nmL,nmL_len b p j]
def stN (b:List Int) (p:Int):Nat:=(belowV b p 7).toNat
def stP (b:List Int) (p:Int):Int:=nmP b (belowP b p 7) (stN b p)
def stepsV (b:List Int) (p:Int):List Int :=
  if onceV b (stP b p) 40=true then List.replicate (100+belowV b (belowP b (stP b p) 40) 2).toNat 0 else nmL b (belowP b p 7) (stN b p)
def stepsP (b:List Int) (p:Int):Int:=if onceV b (stP b p) 40=true then belowP b (belowP b (stP b p) 40) 2 else belowP b (stP b p) 40
theorem nm_end (hr:Rdr.ok b p) {j:Nat} (h:(j:Int)≤belowV b p 7) (h1:¬ belowV b p 7 - (j:Int) > 0):j=stN b p:=by unfold stN; omega
theorem steps_1 {q:Int} (hq:q=stP b p) (h:onceV b q 40=true):stepsV b p=List.replicate (100+belowV b (belowP b q 40) 2).toNat 0∧stepsP b p=belowP b (belowP b q 40) 2:=by
  subst hq; unfold stepsV stepsP; rw [if_pos h,if_pos h]; exact ⟨rfl,rfl⟩
theorem steps_2 {q:Int} (hq:q=stP b p) (h:onceV b q 40=false):stepsV b p=nmL b (belowP b p 7) (stN b p)∧stepsP b p=belowP b q 40:=by
  subst hq; unfold stepsV stepsP; rw [if_neg (by rw [h]; decide),if_neg (by rw [h]; decide)]; exact ⟨rfl,rfl⟩
section
variable {a:Iv} {c:List Int} {i:Int}
end
def htV (b:List Int) (p:Int) (t:List Env):List Env :=
  if belowV b p 24=0 then t.drop 1
  else if belowV b p 24=1 then t.set 0 (hurtV b (belowP b p 24) (t.getD 0 default))
  else if belowV b p 24=2 then t++[⟨false,[],[]⟩]
  else t
def htP (b:List Int) (p:Int):Int:=if belowV b p 24=1 then hurtP b (belowP b p 24) else belowP b p 24
theorem ht_0 {t:List Env} (h:belowV b p 24=0):htV b p t=t.drop 1:=by unfold htV; rw [if_pos h]
theorem ht_1 {t:List Env} (h0:¬ belowV b p 24=0) (h:belowV b p 24=1):htV b p t=t.set 0 (hurtV b (belowP b p 24) (t.getD 0 default)):=by unfold htV; rw [if_neg h0,if_pos h]
theorem ht_2 {t:List Env} (h0:¬ belowV b p 24=0) (h1:¬ belowV b p 24=1) (h:belowV b p 24=2):htV b p t=t++[⟨false,[],[]⟩]:=by unfold htV; rw [if_neg h0,if_neg h1,if_pos h]
theorem ht_3 {t:List Env} (h0:¬ belowV b p 24=0) (h1:¬ belowV b p 24=1) (h:¬ belowV b p 24=2):htV b p t=t:=by unfold htV; rw [if_neg h0,if_neg h1,if_neg h]
theorem htP_0 (h:¬ belowV b p 24=1):htP b p=belowP b p 24:=by unfold htP; rw [if_neg h]
theorem htP_1 (h:belowV b p 24=1):htP b p=hurtP b (belowP b p 24):=by unfold htP; rw [if_pos h]
theorem Rdr.ok.ht (h:Rdr.ok b p):Rdr.ok b (htP b p):=by
  unfold htP; split
  · exact h.below.hurt
  · exact h.below
theorem ht_len {t:List Env}:(htV b p t).length≤t.length+1:=by
  unfold htV
  repeat' split
  all_goals first | (simp; done) | (simp; omega)
theorem env_live {c:List Int} {p:Int} {d:Decl} (h:(envV c p d).live=true):(envV c p d).ints.length=d.vars.length∧(envV c p d).arrs.length=d.arrays.length:=by
  unfold envV at h ⊢
  split
  · rename_i h9; rw [if_pos h9] at h; exact absurd h (by decide)
  · simp [smL_len]
theorem join_len' {a b:Env}:(Env.join a b).ints.length≤max a.ints.length b.ints.length∧(Env.join a b).arrs.length≤max a.arrs.length b.arrs.length:=by
  unfold Env.join
  repeat' split
  all_goals first | omega | (simp only [zip2_len]; omega)
theorem join_fit {a b:Env} (ha:FitE a) (hb:FitE b) (hl:a.live=true→b.live=true→a.ints.length=b.ints.length∧a.arrs.length=b.arrs.length):FitE (Env.join a b):=by
  unfold Env.join
  split
  · rename_i h1
    split
    · rename_i h2
      have h3:=hl h1 h2
      have key:∀ {x y:List Iv},(∀ z∈x,FitI z)→(∀ z∈y,FitI z)→x.length=y.length→∀ z∈zip2 Iv.join x y,FitI z:=by
        intro x y hx hy he z hz
        unfold zip2 zip2To at hz
        simp only [List.mem_map,List.mem_range] at hz
        obtain ⟨i,hi,rfl⟩:=hz
        have h4:=hx _ (getD_mem hi)
        have h5:=hy _ (getD_mem (he ▸ hi))
        unfold FitI Fit Iv.join at *
        simp only
        omega
      exact ⟨key ha.1 hb.1 h3.1,key ha.2 hb.2 h3.2⟩
    · exact ha
  · exact hb
end Go.Proofs

namespace Go.Proofs
open Go Go.Ev
variable [Lay]
theorem okIn_off {d:Decl} {a:Env} (h:Env.okIn d a=true) (hl:a.live=false):a=⟨false,[],[]⟩:=by
  unfold Env.okIn at h
  rw [if_neg (by rw [hl]; decide)] at h
  simp only [Bool.and_eq_true,beq_iff_eq] at h
  have h1:a.ints=[]:=List.eq_nil_of_length_eq_zero (by omega)
  have h2:a.arrs=[]:=List.eq_nil_of_length_eq_zero (by omega)
  cases a; simp_all
theorem okIn_ok {d:Decl} {a:Env} (h:Env.okIn d a=true) (hl:a.live=true):(a.ints.length=d.vars.length∧a.arrs.length=d.arrays.length)∧(∀ x∈a.ints,x.lo≤x.hi)∧∀ x∈a.arrs,x.lo≤x.hi:=by
  refine ⟨okIn_one h hl,?_⟩
  unfold Env.okIn at h
  rw [if_pos hl] at h
  simp only [Bool.and_eq_true,List.all_eq_true,List.mem_append,Iv.ok,decide_eq_true_eq] at h
  exact ⟨fun x hx=>h.2 x (.inl hx),fun x hx=>h.2 x (.inr hx)⟩
theorem okIn_mk {d:Decl} {a:Env} (hl:a.live=true) (h1:a.ints.length=d.vars.length) (h2:a.arrs.length=d.arrays.length) (h3:∀ x∈a.ints,x.lo≤x.hi) (h4:∀ x∈a.arrs,x.lo≤x.hi):Env.okIn d a=true:=by
  unfold Env.okIn
  rw [if_pos hl]
  simp only [Bool.and_eq_true,beq_iff_eq,List.all_eq_true,List.mem_append,Iv.ok,decide_eq_true_eq]
  exact ⟨⟨by omega,by omega⟩,fun x hx=>hx.elim (h3 x) (h4 x)⟩
theorem leq_mk {a b:Env} (hb:b.live=true) (h1:∀ i,i < a.ints.length→Iv.leq (a.ints.getD i default) (b.ints.getD i default)=true) (h2:∀ i,i < a.arrs.length→Iv.leq (a.arrs.getD i default) (b.arrs.getD i default)=true):Env.leq a b=true:=by
  unfold Env.leq
  split
  · simp only [hb,if_true,Bool.and_eq_true]; exact ⟨allTo_iff.2 h1,allTo_iff.2 h2⟩
  · rfl
theorem Iv.leq_mk {a b:Iv} (h1:a.lo≤a.hi) (h2:b.lo≤b.hi) (h3:b.lo≤a.lo) (h4:a.hi≤b.hi):Iv.leq a b=true:=by
  simp only [Iv.leq,Iv.ok,Bool.and_eq_true,decide_eq_true_eq]; exact ⟨⟨⟨h1,h2⟩,h3⟩,h4⟩
theorem zip2_get {α β γ:Type} [Inhabited α] [Inhabited β] [Inhabited γ] {f:α→β→γ} {a:List α} {b:List β} {i:Nat} (h:i < a.length):(zip2 f a b).getD i default=f (a.getD i default) (b.getD i default):=by
  unfold zip2 zip2To
  rw [List.getD_eq_getElem?_getD,List.getElem?_map,List.getElem?_range h]; rfl
theorem zip2_all {α β γ:Type} [Inhabited α] [Inhabited β] {f:α→β→γ} {a:List α} {b:List β} {p:γ→Prop} (h:∀ i,i < a.length→p (f (a.getD i default) (b.getD i default))):∀ x∈zip2 f a b,p x:=by
  intro x hx
  unfold zip2 zip2To at hx
  simp only [List.mem_map,List.mem_range] at hx
  obtain ⟨i,hi,rfl⟩:=hx
  exact h i hi
theorem list_ext {α:Type} [Inhabited α] {a b:List α} (hl:a.length=b.length) (h:∀ i,i < a.length→a.getD i default=b.getD i default):a=b:=by
  refine List.ext_getElem hl fun i h1 h2=>?_
  have:=h i h1
  rwa [List.getD_eq_getElem?_getD,List.getD_eq_getElem?_getD,List.getElem?_eq_getElem h1,List.getElem?_eq_getElem h2] at this
theorem zip2_id {f:Iv→Iv→Iv} {a b:List Iv} (h:∀ i,i < a.length→f (a.getD i default) (b.getD i default)=a.getD i default):zip2 f a b=a :=
  list_ext (zip2_len _ _ _) fun i hi=>by rw [zip2_len] at hi; rw [zip2_get hi]; exact h i hi
theorem foldl_le {n z:Int}:∀ {l:List Int},z≤n→l.foldl (fun m s=>if s≤n then max m s else m) z≤n
  | [],h=>h
  | s::l,h=>by
    simp only [List.foldl_cons]
    refine foldl_le ?_
    split<;>omega
theorem foldl_ge {n z:Int}:∀ {l:List Int},n≤z→n≤l.foldl (fun m s=>if s≥n then min m s else m) z
  | [],h=>h
  | s::l,h=>by
    simp only [List.foldl_cons]
    refine foldl_ge ?_
    split<;>omega
theorem widenLo_le {n z:Int} {l:List Int} (h:z≤n):widenLo n l z≤n:=foldl_le h
theorem widenHi_ge {n z:Int} {l:List Int} (h:n≤z):n≤widenHi n l z:=foldl_ge h
theorem widen_bnd {a b:Iv} {l:List Int} (fb:FitI b):(Iv.widen a b l).lo≤a.lo∧(Iv.widen a b l).lo≤b.lo∧a.hi≤(Iv.widen a b l).hi∧b.hi≤(Iv.widen a b l).hi:=by
  have h1:=widenLo_le (n:=b.lo) (z:=-9223372036854775808) (l:=l) fb.1.1
  have h2:=widenHi_ge (n:=b.hi) (z:=9223372036854775807) (l:=l) fb.2.2
  unfold Iv.widen
  simp only
  split<;>split<;>omega
theorem widen_stay {a b:Iv} {l:List Int} (h1:a.lo≤b.lo) (h2:b.hi≤a.hi):Iv.widen a b l=a:=by
  unfold Iv.widen
  rw [if_neg (by omega),if_neg (by omega)]
theorem widenOk_is {a b:Iv} {l:List Int} (h1:a.lo≤a.hi) (h2:b.lo≤b.hi) (hl:¬ (l.length:Int) > 100):Iv.widenOk l a b=Iv.widen a b l :=
  Iv.widenOk_yes ⟨⟨decide_eq_true h1,decide_eq_true h2⟩,hl⟩
section
variable {d:Decl} {a b:Env} {l:List Int}
theorem widen_still {w:Env} (hd:Decl.ok d=true) (hw:Env.okIn d w=true) (hb:Env.okIn d b=true) (hl:¬ (l.length:Int) > 100) (h:Env.leq b w=true):Env.widenIn d w b l=w:=by
  rw [Env.widenIn_yes2 ⟨⟨⟨hd,hw⟩,hb⟩,hl⟩]
  unfold Env.joinW
  unfold Env.leq at h
  cases h1:w.live with
  | true =>
    cases h2:b.live with
    | true =>
      obtain ⟨a1,a2,a3⟩:=okIn_ok hw h1
      obtain ⟨b1,b2,b3⟩:=okIn_ok hb h2
      rw [if_pos h2,if_pos h1,Bool.and_eq_true] at h
      have key:∀ {x y:List Iv},x.length=y.length→(allTo y.length fun i=>Iv.leq (y.getD i default) (x.getD i default))=true→zip2 (fun x y=>Iv.widenOk l x y) x y=x:=fun {x y} he h3=>zip2_id fun i hi=>by
        have h4:=allTo_iff.1 h3 i (he ▸ hi)
        simp only [Iv.leq,Iv.ok,Bool.and_eq_true,decide_eq_true_eq] at h4
        rw [widenOk_is h4.1.1.2 h4.1.1.1 hl,widen_stay h4.1.2 h4.2]
      rw [if_pos rfl,if_pos rfl,key (a1.1.trans b1.1.symm) h.1,key (a1.2.trans b1.2.symm) h.2]
      cases w; simp_all
    | false=>rw [if_pos rfl,if_neg (by decide)]
  | false =>
    rw [if_neg (by decide)]
    cases h2:b.live with
    | true=>rw [if_pos h2,if_neg (by rw [h1]; decide)] at h; exact absurd h (by decide)
    | false=>rw [okIn_off hb h2,okIn_off hw h1]
end
end Go.Proofs

namespace Go.Proofs
open Go Go.Ev
variable [Lay]
variable {b:List Int} {p:Int} {d:Decl}
theorem leaves_bnd (h:d.flags.length≤3):1≤leavesOf d∧leavesOf d≤8:=by
  unfold leavesOf
  have:d.flags.length=0∨d.flags.length=1∨d.flags.length=2∨d.flags.length=3:=by omega
  rcases this with h | h | h | h<;>rw [h]<;>decide
def tbP2 (b:List Int) (d:Decl) (p:Int) (i:Nat):Int:=if (i:Int) > 0 then belowP b (envP b p d) 2 else envP b p d
def tbP3 (b:List Int) (d:Decl) (p:Int) (i:Nat):Int:=if (i:Int) > 0∧onceV b (envP b p d) 2=true then belowP b (tbP2 b d p i) (i:Int) else tbP2 b d p i
def tbE1 (b:List Int) (d:Decl) (p:Int) (out:List Env) (i:Nat):Env:=if (i:Int) > 0∧onceV b (envP b p d) 2=true then out.getD (belowV b (tbP2 b d p i) (i:Int)).toNat default else envV b p d
def tbE (b:List Int) (d:Decl) (p:Int) (out:List Env) (i:Nat):Env:=if onceV b (tbP3 b d p i) 6=true then ⟨false,[],[]⟩ else tbE1 b d p out i
def tbS (b:List Int) (d:Decl) (p:Int):Nat→List Env × Int
  | 0=>([],p)
  | j+1=>((tbS b d p j).1++[tbE b d (tbS b d p j).2 (tbS b d p j).1 j],belowP b (tbP3 b d (tbS b d p j).2 j) 6)
def tbV (b:List Int) (p:Int) (d:Decl):List Env:=(tbS b d p (leavesOf d).toNat).1
def tbP (b:List Int) (p:Int) (d:Decl):Int:=(tbS b d p (leavesOf d).toNat).2
theorem Rdr.ok.tb3 (h:Rdr.ok b p) (i:Nat):Rdr.ok b (tbP3 b d p i):=by
  have h2:Rdr.ok b (tbP2 b d p i):=by
    unfold tbP2; split
    · exact h.env.below
    · exact h.env
  unfold tbP3; split
  · exact h2.below
  · exact h2
theorem Rdr.ok.tb2 (h:Rdr.ok b p) (i:Nat):Rdr.ok b (tbP2 b d p i):=by
  unfold tbP2; split
  · exact h.env.below
  · exact h.env
theorem Rdr.ok.tbS (h:Rdr.ok b p):∀ j,Rdr.ok b (tbS b d p j).2
  | 0=>h
  | j+1=>Rdr.ok.below (n:=6) ((Rdr.ok.tbS h j).tb3 (d:=d) j)
theorem Rdr.ok.tb (h:Rdr.ok b p):Rdr.ok b (tbP b p d):=h.tbS _
theorem tbS_len:∀ j,(tbS b d p j).1.length=j
  | 0=>rfl
  | j+1=>by simp [tbS,tbS_len j]
def Sized (d:Decl) (x:Env):Prop:=(x.live=true→x.ints.length=d.vars.length∧x.arrs.length=d.arrays.length)∧x.ints.length≤d.vars.length∧x.arrs.length≤d.arrays.length∧FitE x
theorem env_sized (h:Rdr.ok b p):Sized d (envV b p d):=⟨env_live,env_len.1,env_len.2,env_fit h⟩
theorem off_sized:Sized d ⟨false,[],[]⟩:=⟨fun h=>absurd h (by decide),Nat.zero_le _,Nat.zero_le _,by simp [FitE]⟩
theorem tb_sized (h:Rdr.ok b p):∀ j,∀ x∈(tbS b d p j).1,Sized d x
  | 0,x,hx=>by simp [tbS] at hx
  | j+1,x,hx=>by
    simp only [tbS,List.mem_append,List.mem_singleton] at hx
    rcases hx with hx | rfl
    · exact tb_sized h j x hx
    · unfold tbE
      split
      · exact off_sized
      · unfold tbE1
        split
        · rename_i h1
          have h2:=belowV_bnd (n:=(j:Int)) ((Rdr.ok.tbS (d:=d) h j).tb2 (d:=d) j) (by omega)
          exact tb_sized h j _ (getD_mem (by rw [tbS_len]; omega))
        · exact env_sized (Rdr.ok.tbS h j)
section
theorem no_and {A:Prop} {x:Bool} (h:¬ A∨x=false):¬ (A∧x=true):=fun h9=>h.elim (fun h8=>h8 h9.1) fun h8=>by rw [h8] at h9; exact absurd h9.2 (by decide)
variable {j:Nat}
theorem tbP3_1 (h1:(j:Int) > 0∧onceV b (envP b p d) 2=true):tbP3 b d p j=belowP b (tbP2 b d p j) (j:Int):=by unfold tbP3; exact if_pos h1
theorem tbP3_0 (h1:¬ (j:Int) > 0∨onceV b (envP b p d) 2=false):tbP3 b d p j=tbP2 b d p j:=by unfold tbP3; exact if_neg (no_and h1)
theorem tbE_1 {out:List Env} (h:onceV b (tbP3 b d p j) 6=true):tbE b d p out j=⟨false,[],[]⟩:=by unfold tbE; exact if_pos h
theorem tbE_0 {out:List Env} (h:onceV b (tbP3 b d p j) 6=false):tbE b d p out j=tbE1 b d p out j:=by unfold tbE; exact if_neg (by rw [h]; decide)
theorem tbE1_1 {out:List Env} (h1:(j:Int) > 0∧onceV b (envP b p d) 2=true):tbE1 b d p out j=out.getD (belowV b (tbP2 b d p j) (j:Int)).toNat default:=by unfold tbE1; exact if_pos h1
theorem tbE1_0 {out:List Env} (h1:¬ (j:Int) > 0∨onceV b (envP b p d) 2=false):tbE1 b d p out j=envV b p d:=by unfold tbE1; exact if_neg (no_and h1)
theorem tbS_1 {x:Env} (h:tbE b d (tbS b d p j).2 (tbS b d p j).1 j=x):(tbS b d p j).1++[x]=(tbS b d p (j+1)).1:=by rw [← h]; rfl
theorem tbS_2 {q:Int} (h:tbP3 b d (tbS b d p j).2 j=q):belowP b q 6=(tbS b d p (j+1)).2:=by rw [← h]; rfl
theorem tb_11 (h1:(j:Int) > 0∧onceV b (envP b (tbS b d p j).2 d) 2=true) (h2:onceV b (belowP b (tbP2 b d (tbS b d p j).2 j) (j:Int)) 6=true):(tbS b d p j).1++[⟨false,[],[]⟩]=(tbS b d p (j+1)).1 :=
  tbS_1 (tbE_1 (by rw [tbP3_1 h1]; exact h2))
theorem tb_10 (h1:(j:Int) > 0∧onceV b (envP b (tbS b d p j).2 d) 2=true) (h2:onceV b (belowP b (tbP2 b d (tbS b d p j).2 j) (j:Int)) 6=false):(tbS b d p j).1++[(tbS b d p j).1.getD (belowV b (tbP2 b d (tbS b d p j).2 j) (j:Int)).toNat default]=(tbS b d p (j+1)).1 :=
  tbS_1 ((tbE_0 (by rw [tbP3_1 h1]; exact h2)).trans (tbE1_1 h1))
theorem tb_01 (h1:¬ (j:Int) > 0∨onceV b (envP b (tbS b d p j).2 d) 2=false) (h2:onceV b (tbP2 b d (tbS b d p j).2 j) 6=true):(tbS b d p j).1++[⟨false,[],[]⟩]=(tbS b d p (j+1)).1 :=
  tbS_1 (tbE_1 (by rw [tbP3_0 h1]; exact h2))
theorem tb_00 (h1:¬ (j:Int) > 0∨onceV b (envP b (tbS b d p j).2 d) 2=false) (h2:onceV b (tbP2 b d (tbS b d p j).2 j) 6=false):(tbS b d p j).1++[envV b (tbS b d p j).2 d]=(tbS b d p (j+1)).1 :=
  tbS_1 ((tbE_0 (by rw [tbP3_0 h1]; exact h2)).trans (tbE1_0 h1))
theorem tb_p1 (h1:(j:Int) > 0∧onceV b (envP b (tbS b d p j).2 d) 2=true):belowP b (belowP b (tbP2 b d (tbS b d p j).2 j) (j:Int)) 6=(tbS b d p (j+1)).2:=tbS_2 (tbP3_1 h1)
theorem tb_p0 (h1:¬ (j:Int) > 0∨onceV b (envP b (tbS b d p j).2 d) 2=false):belowP b (tbP2 b d (tbS b d p j).2 j) 6=(tbS b d p (j+1)).2:=tbS_2 (tbP3_0 h1)
end
theorem tb_copy (h:Rdr.ok b p) (hd:d.vars.length≤1048576∧d.arrays.length≤1048576) {j i:Nat} (hi:i < j):((tbS b d p j).1.getD i default).ints.length≤1048576∧((tbS b d p j).1.getD i default).arrs.length≤1048576:=by
  have h1:=tb_sized (d:=d) h j _ (getD_mem (a:=(tbS b d p j).1) (j:=i) (by rw [tbS_len]; exact hi))
  exact ⟨Nat.le_trans h1.2.1 hd.1,Nat.le_trans h1.2.2.1 hd.2⟩
theorem tb_end {j:Nat} (h:(j:Int)≤leavesOf d) (h1:¬ (j:Int) < leavesOf d):(tbS b d p j).1=tbV b p d∧(tbS b d p j).2=tbP b p d:=by
  have:j=(leavesOf d).toNat:=by omega
  subst this
  exact ⟨rfl,rfl⟩
theorem tbV_len (h:d.flags.length≤3):((tbV b p d).length:Int)=leavesOf d:=by
  have:=leaves_bnd h
  unfold tbV; rw [tbS_len]; omega
theorem tbV_sized (h:Rdr.ok b p):∀ x∈tbV b p d,Sized d x:=tb_sized h _
section
variable {c:List Int} {q q' u:Int}
theorem join_sized {d:Decl} {a b:Env} (ha:Sized d a) (hb:Sized d b):Sized d (Env.join a b):=by
  refine ⟨fun hl=>?_,?_,?_,join_fit ha.2.2.2 hb.2.2.2 fun h1 h2=>?_⟩
  · unfold Env.join at hl ⊢
    split
    · rename_i h1
      split
      · simp only [zip2_len]; exact ha.1 h1
      · exact ha.1 h1
    · rename_i h1
      rw [if_neg h1] at hl
      exact hb.1 hl
  · have:=join_len' (a:=a) (b:=b); have:=ha.2.1; have:=hb.2.1; omega
  · have:=join_len' (a:=a) (b:=b); have:=ha.2.2.1; have:=hb.2.2.1; omega
  · have h3:=ha.1 h1
    have h4:=hb.1 h2
    omega
theorem d_hd:(declV c u).vars.length≤1048576∧(declV c u).arrays.length≤1048576:=by have:=decl_len (b:=c) (p:=u); omega
def Sized1 (x:Env):Prop:=x.ints.length≤6∧x.arrs.length≤1∧FitE x
theorem ht_sized {p:Int} {t:List Env} (h:∀ x∈t,Sized (declV c u) x) (hn:1≤t.length):∀ x∈htV c p t,Sized1 x:=by
  have h0:∀ x,Sized (declV c u) x→Sized1 x:=fun x hx=>by
    have h2:=decl_len (b:=c) (p:=u)
    have h3:=hx.2.1
    have h4:=hx.2.2.1
    exact ⟨by omega,by omega,hx.2.2.2⟩
  intro x hx
  unfold htV at hx
  split at hx
  · exact h0 _ (h x (List.mem_of_mem_drop hx))
  · split at hx
    · rcases List.mem_or_eq_of_mem_set hx with hx | rfl
      · exact h0 _ (h x hx)
      · have h1:=h _ (getD_mem (a:=t) (j:=0) (by omega))
        have h2:=hurt_len (b:=c) (p:=belowP c p 24) (e:=t.getD 0 default)
        have h3:=decl_len (b:=c) (p:=u)
        have h4:=h1.2.1
        have h5:=h1.2.2.1
        exact ⟨by omega,by omega,hurt_fit h1.2.2.2⟩
    · split at hx
      · simp only [List.mem_append,List.mem_singleton] at hx
        rcases hx with hx | rfl
        · exact h0 _ (h x hx)
        · exact ⟨by simp,by simp,by simp [FitE]⟩
      · exact h0 _ (h x hx)
end
end Go.Proofs

namespace Go.Proofs
open Go Go.Ev
variable [Lay]
section
variable {d:Decl} {a b:Env} {l:List Int}
theorem joinOk_is {x y:Iv} (h1:x.lo≤x.hi) (h2:y.lo≤y.hi):Iv.joinOk x y=Iv.join x y:=Iv.joinOk_yes ⟨decide_eq_true h1,decide_eq_true h2⟩
theorem joinW_ok {f:Iv→Iv→Iv} (hf:∀ x y,x.lo≤x.hi→y.lo≤y.hi→FitI y→(f x y).lo≤(f x y).hi) (ha:Env.okIn d a=true) (hb:Env.okIn d b=true) (fb:FitE b):Env.okIn d (Env.joinW f a b)=true:=by
  unfold Env.joinW
  split
  · rename_i h1
    split
    · rename_i h2
      obtain ⟨a1,a2,a3⟩:=okIn_ok ha h1
      obtain ⟨b1,b2,b3⟩:=okIn_ok hb h2
      have key:∀ {x y:List Iv},(∀ z∈x,z.lo≤z.hi)→(∀ z∈y,z.lo≤z.hi)→(∀ z∈y,FitI z)→x.length=y.length→∀ z∈zip2 f x y,z.lo≤z.hi:=fun {x y} hx hy hy2 he=>zip2_all fun i hi =>
        hf _ _ (hx _ (getD_mem hi)) (hy _ (getD_mem (he ▸ hi))) (hy2 _ (getD_mem (he ▸ hi)))
      exact okIn_mk rfl (by rw [zip2_len]; exact a1.1) (by rw [zip2_len]; exact a1.2) (key a2 b2 fb.1 (a1.1.trans b1.1.symm)) (key a3 b3 fb.2 (a1.2.trans b1.2.symm))
    · exact ha
  · exact hb
theorem leq_refl (ha:Env.okIn d a=true):Env.leq a a=true:=by
  cases h1:a.live with
  | false=>unfold Env.leq; rw [if_neg (by rw [h1]; decide)]
  | true =>
    obtain ⟨a1,a2,a3⟩:=okIn_ok ha h1
    have same:∀ {x:List Iv},(∀ z∈x,z.lo≤z.hi)→∀ i,i < x.length→Iv.leq (x.getD i default) (x.getD i default)=true:=fun hx i hi=>Iv.leq_mk (hx _ (getD_mem hi)) (hx _ (getD_mem hi)) (Int.le_refl _) (Int.le_refl _)
    exact leq_mk h1 (same a2) (same a3)
theorem leq_off (h:a.live=false):Env.leq a b=true:=by unfold Env.leq; rw [if_neg (by rw [h]; decide)]
theorem joinW_leq {f g:Iv→Iv→Iv} (hf:∀ x y,x.lo≤x.hi→y.lo≤y.hi→FitI y→Iv.leq (f x y) (g x y)=true) (ha:Env.okIn d a=true) (hb:Env.okIn d b=true) (fb:FitE b):Env.leq (Env.joinW f a b) (Env.joinW g a b)=true:=by
  unfold Env.joinW
  split
  · rename_i h1
    split
    · rename_i h2
      obtain ⟨a1,a2,a3⟩:=okIn_ok ha h1
      obtain ⟨b1,b2,b3⟩:=okIn_ok hb h2
      have key:∀ {x y:List Iv},(∀ z∈x,z.lo≤z.hi)→(∀ z∈y,z.lo≤z.hi)→(∀ z∈y,FitI z)→x.length=y.length→∀ i,i < (zip2 f x y).length→Iv.leq ((zip2 f x y).getD i default) ((zip2 g x y).getD i default)=true:=fun {x y} hx hy hy2 he i hi=>by
        rw [zip2_len] at hi
        rw [zip2_get hi,zip2_get hi]
        exact hf _ _ (hx _ (getD_mem hi)) (hy _ (getD_mem (he ▸ hi))) (hy2 _ (getD_mem (he ▸ hi)))
      exact leq_mk rfl (key a2 b2 fb.1 (a1.1.trans b1.1.symm)) (key a3 b3 fb.2 (a1.2.trans b1.2.symm))
    · exact leq_refl ha
  · exact leq_refl hb
theorem leq_joinW {g:Iv→Iv→Iv} (hf:∀ x y,x.lo≤x.hi→y.lo≤y.hi→FitI y→Iv.leq x (g x y)=true∧Iv.leq y (g x y)=true) (ha:Env.okIn d a=true) (hb:Env.okIn d b=true) (fb:FitE b):Env.leq a (Env.joinW g a b)=true∧Env.leq b (Env.joinW g a b)=true:=by
  unfold Env.joinW
  split
  · rename_i h1
    split
    · rename_i h2
      obtain ⟨a1,a2,a3⟩:=okIn_ok ha h1
      obtain ⟨b1,b2,b3⟩:=okIn_ok hb h2
      have key:∀ {x y:List Iv},(∀ z∈x,z.lo≤z.hi)→(∀ z∈y,z.lo≤z.hi)→(∀ z∈y,FitI z)→x.length=y.length→∀ i,i < x.length→Iv.leq (x.getD i default) ((zip2 g x y).getD i default)=true∧Iv.leq (y.getD i default) ((zip2 g x y).getD i default)=true:=fun {x y} hx hy hy2 he i hi=>by
        rw [zip2_get hi]
        exact hf _ _ (hx _ (getD_mem hi)) (hy _ (getD_mem (he ▸ hi))) (hy2 _ (getD_mem (he ▸ hi)))
      have e1:=a1.1.trans b1.1.symm
      have e2:=a1.2.trans b1.2.symm
      exact ⟨leq_mk rfl (fun i hi=>(key a2 b2 fb.1 e1 i hi).1) fun i hi=>(key a3 b3 fb.2 e2 i hi).1,leq_mk rfl (fun i hi=>(key a2 b2 fb.1 e1 i (e1 ▸ hi)).2) fun i hi=>(key a3 b3 fb.2 e2 i (e2 ▸ hi)).2⟩
    · rename_i h2
      exact ⟨leq_refl ha,leq_off (by simpa using h2)⟩
  · rename_i h1
    exact ⟨leq_off (by simpa using h1),leq_refl hb⟩
theorem ivjoin_ok (x y:Iv) (h1:x.lo≤x.hi) (h2:y.lo≤y.hi):(Iv.joinOk x y).lo≤(Iv.joinOk x y).hi:=by rw [joinOk_is h1 h2]; unfold Iv.join; simp only; omega
theorem ivwiden_ok (hl:¬ (l.length:Int) > 100) (x y:Iv) (h1:x.lo≤x.hi) (h2:y.lo≤y.hi) (fy:FitI y):(Iv.widenOk l x y).lo≤(Iv.widenOk l x y).hi:=by
  rw [widenOk_is h1 h2 hl]; have:=widen_bnd (a:=x) (l:=l) fy; omega
theorem ivjoin_above (x y:Iv) (h1:x.lo≤x.hi) (h2:y.lo≤y.hi):Iv.leq x (Iv.joinOk x y)=true∧Iv.leq y (Iv.joinOk x y)=true:=by
  rw [joinOk_is h1 h2]; unfold Iv.join
  exact ⟨Iv.leq_mk h1 (by simp only; omega) (by simp only; omega) (by simp only; omega),Iv.leq_mk h2 (by simp only; omega) (by simp only; omega) (by simp only; omega)⟩
theorem ivjoin_widen (hl:¬ (l.length:Int) > 100) (x y:Iv) (h1:x.lo≤x.hi) (h2:y.lo≤y.hi) (fy:FitI y):Iv.leq (Iv.joinOk x y) (Iv.widenOk l x y)=true:=by
  rw [joinOk_is h1 h2,widenOk_is h1 h2 hl]
  have:=widen_bnd (a:=x) (l:=l) fy
  unfold Iv.join
  exact Iv.leq_mk (by simp only; omega) (by omega) (by simp only; omega) (by simp only; omega)
theorem ivleq_same {x y:Iv} (h1:x.lo≤x.hi) (h2:y.lo≤y.hi):Iv.leq x y=Iv.same (Iv.joinOk x y) y:=by
  rw [joinOk_is h1 h2,Bool.eq_iff_iff]
  simp only [Iv.leq,Iv.ok,Iv.same,Iv.join,Bool.and_eq_true,decide_eq_true_eq,beq_iff_eq]
  omega
theorem leq_same (ha:Env.okIn d a=true) (hb:Env.okIn d b=true):Env.leq a b=Env.same (Env.joinW Iv.joinOk a b) b:=by
  cases h1:a.live with
  | false =>
    rw [leq_off h1]
    unfold Env.joinW
    rw [if_neg (by rw [h1]; decide)]
    exact (Env.same_self b).symm
  | true =>
    obtain ⟨a1,a2,a3⟩:=okIn_ok ha h1
    cases h2:b.live with
    | false =>
      unfold Env.leq Env.joinW
      rw [if_pos h1,if_neg (by rw [h2]; decide),if_pos h1,if_neg (by rw [h2]; decide)]
      simp [Env.same,h1,h2]
    | true =>
      obtain ⟨b1,b2,b3⟩:=okIn_ok hb h2
      unfold Env.leq
      rw [if_pos h1,if_pos h2,Env.joinW_live ⟨h1,h2⟩]
      have key:∀ {x y:List Iv},(∀ z∈x,z.lo≤z.hi)→(∀ z∈y,z.lo≤z.hi)→x.length=y.length→(allTo x.length fun i=>Iv.leq (x.getD i default) (y.getD i default))=all2 Iv.same (zip2 Iv.joinOk x y) y:=fun {x y} hx hy he=>by
        unfold all2
        rw [zip2_len,he]
        simp only [beq_self_eq_true,Bool.true_and]
        refine allTo_congr fun i hi=>?_
        rw [zip2_get (he ▸ hi)]
        exact ivleq_same (hx _ (getD_mem (he ▸ hi))) (hy _ (getD_mem hi))
      simp only [Env.same,h2,beq_self_eq_true,Bool.true_and]
      rw [key a2 b2 (a1.1.trans b1.1.symm),key a3 b3 (a1.2.trans b1.2.symm)]
end
section
variable {d:Decl} {a b:List Env} {l:List Int}
theorem isIn_mk {t:List Env} (h1:(t.length:Int)=leavesOf d) (h2:∀ x∈t,Env.okIn d x=true):Table.isIn d t=true:=by
  simp only [Table.isIn,Bool.and_eq_true,beq_iff_eq,List.all_eq_true]
  exact ⟨h1,h2⟩
theorem isIn_zip {f:Env→Env→Env} (ha:Table.isIn d a=true) (hb:Table.isIn d b=true) (h:∀ i,i < a.length→Env.okIn d (f (a.getD i default) (b.getD i default))=true):Table.isIn d (zip2 f a b)=true :=
  isIn_mk (by rw [zip2_len]; exact (Table.isIn_get ha).1) (zip2_all h)
theorem law_TableOrder (ha:Table.ok d a=true) (hb:Table.ok d b=true) (hl:¬ (l.length:Int) > 100) (fb:∀ x∈b,FitE x) :
    Table.leq d a (Table.joinIn d a b)=true∧Table.leq d b (Table.joinIn d a b)=true∧Table.leq d (Table.joinIn d a b) (Table.widenIn d a b l)=true ∧
    Table.leq d a b=all2 Env.same (Table.joinIn d a b) b∧Table.widenIn d (Table.widenIn d a b l) (Table.joinIn d a b) l=Table.widenIn d a b l:=by
  have hd:=Table.ok_decl ha
  have ia:=Table.ok_in ha
  have ib:=Table.ok_in hb
  have he:=(Table.fit ia ib).1
  have oa:=(Table.isIn_get ia).2
  have ob:∀ i,i < a.length→Env.okIn d (b.getD i default)=true:=fun i hi=>(Table.isIn_get ib).2 i (he ▸ hi)
  have ff:∀ i,i < a.length→FitE (b.getD i default):=fun i hi=>fb _ (getD_mem (he ▸ hi))
  rw [Table.joinIn_yes2 ⟨ha,ib⟩,Table.widenIn_yes2 ⟨⟨ha,ib⟩,hl⟩]
  have oj:∀ i,i < a.length→Env.okIn d (Env.joinW Iv.joinOk (a.getD i default) (b.getD i default))=true:=fun i hi=>joinW_ok (fun x y h1 h2 _=>ivjoin_ok x y h1 h2) (oa i hi) (ob i hi) (ff i hi)
  have ow:∀ i,i < a.length→Env.okIn d (Env.joinW (fun x y=>Iv.widenOk l x y) (a.getD i default) (b.getD i default))=true:=fun i hi=>joinW_ok (ivwiden_ok hl) (oa i hi) (ob i hi) (ff i hi)
  have ij:Table.isIn d (zip2 (Env.joinW Iv.joinOk) a b)=true:=isIn_zip ia ib oj
  have iw:Table.isIn d (zip2 (Env.joinW fun x y=>Iv.widenOk l x y) a b)=true:=isIn_zip ia ib ow
  have okj:Table.ok d (zip2 (Env.joinW Iv.joinOk) a b)=true:=by unfold Table.ok; rw [hd,ij]; rfl
  have okw:Table.ok d (zip2 (Env.joinW fun x y=>Iv.widenOk l x y) a b)=true:=by unfold Table.ok; rw [hd,iw]; rfl
  have jw:∀ i,i < a.length→Env.leq (Env.joinW Iv.joinOk (a.getD i default) (b.getD i default)) (Env.joinW (fun x y=>Iv.widenOk l x y) (a.getD i default) (b.getD i default))=true:=fun i hi=>joinW_leq (ivjoin_widen hl) (oa i hi) (ob i hi) (ff i hi)
  refine ⟨?_,?_,?_,?_,?_⟩
  · unfold Table.leq tabLeq
    rw [ha,ij]
    simp only [Bool.and_self,Bool.true_and]
    refine allTo_iff.2 fun i hi=>?_
    rw [zip2_get hi]
    exact (leq_joinW (fun x y h1 h2 _=>ivjoin_above x y h1 h2) (oa i hi) (ob i hi) (ff i hi)).1
  · unfold Table.leq tabLeq
    rw [hb,ij]
    simp only [Bool.and_self,Bool.true_and]
    refine allTo_iff.2 fun i hi=>?_
    rw [← he] at hi
    rw [zip2_get hi]
    exact (leq_joinW (fun x y h1 h2 _=>ivjoin_above x y h1 h2) (oa i hi) (ob i hi) (ff i hi)).2
  · unfold Table.leq tabLeq
    rw [okj,iw]
    simp only [Bool.and_self,Bool.true_and]
    refine allTo_iff.2 fun i hi=>?_
    rw [zip2_len] at hi
    rw [zip2_get hi,zip2_get hi]
    exact jw i hi
  · unfold Table.leq tabLeq all2
    rw [ha,ib,zip2_len,he]
    simp only [Bool.and_self,Bool.true_and,beq_self_eq_true]
    refine allTo_congr fun i hi=>?_
    rw [← he] at hi
    rw [zip2_get hi]
    exact leq_same (oa i hi) (ob i hi)
  · rw [Table.widenIn_yes2 ⟨⟨okw,ij⟩,hl⟩]
    refine list_ext (zip2_len _ _ _) fun i hi=>?_
    rw [zip2_len,zip2_len] at hi
    rw [zip2_get (by rw [zip2_len]; exact hi),zip2_get hi,zip2_get hi]
    have h9:=widen_still (l:=l) hd (ow i hi) (oj i hi) hl (jw i hi)
    rwa [Env.widenIn_yes2 ⟨⟨⟨hd,ow i hi⟩,oj i hi⟩,hl⟩] at h9
end
end Go.Proofs

namespace Go.Proofs
open Go Go.Ev
variable [Lay]
variable {b:List Int} {p:Int} {d:Decl}
def tkS (b:List Int) (p:Int):Nat→List Entry × Int
  | 0=>([],belowP b p 4)
  | j+1=>((tkS b p j).1++[⟨belowV b (tkS b p j).2 4,belowV b (belowP b (tkS b p j).2 4) 3⟩],belowP b (belowP b (tkS b p j).2 4) 3)
def tkN (b:List Int) (p:Int):Nat:=(belowV b p 4).toNat
def tkE (b:List Int) (q:Int):Entry:=⟨offV b q 0 29,offV b (offP b q 0 29) 0 4⟩
def tkQ (b:List Int) (p:Int):Int:=(tkS b p (tkN b p)).2
def tkV (b:List Int) (p:Int):List Entry :=
  if belowV b (tkQ b p) 40=0 then (tkS b p (tkN b p)).1++[tkE b (belowP b (tkQ b p) 40)]
  else if belowV b (tkQ b p) 40=1 then [tkE b (belowP b (tkQ b p) 40)]
  else (tkS b p (tkN b p)).1
def tkP (b:List Int) (p:Int):Int:=if belowV b (tkQ b p) 40=0∨belowV b (tkQ b p) 40=1 then offP b (offP b (belowP b (tkQ b p) 40) 0 29) 0 4 else belowP b (tkQ b p) 40
theorem Rdr.ok.tkS (h:Rdr.ok b p):∀ j,Rdr.ok b (tkS b p j).2
  | 0=>h.below (n:=4)
  | j+1=>Rdr.ok.below (n:=3) (Rdr.ok.below (n:=4) (Rdr.ok.tkS h j))
theorem Rdr.ok.tk (h:Rdr.ok b p):Rdr.ok b (tkP b p):=by
  have h1:Rdr.ok b (tkQ b p):=h.tkS _
  unfold tkP
  split
  · exact (h1.below (n:=40)).off.off
  · exact h1.below (n:=40)
theorem tkS_len:∀ j,(tkS b p j).1.length=j
  | 0=>rfl
  | j+1=>by simp [tkS,tkS_len j]
theorem tk_j {j:Nat} (h:(j:Int)≤belowV b p 4) (h1:¬ belowV b p 4 - (j:Int) > 0):j=tkN b p:=by unfold tkN; omega
theorem tk_0 {j:Nat} (hj:j=tkN b p) (h:belowV b (tkS b p j).2 40=0):(tkS b p j).1++[⟨offV b (belowP b (tkS b p j).2 40) 0 29,offV b (offP b (belowP b (tkS b p j).2 40) 0 29) 0 4⟩]=tkV b p∧offP b (offP b (belowP b (tkS b p j).2 40) 0 29) 0 4=tkP b p:=by
  subst hj
  have h':belowV b (tkQ b p) 40=0:=h
  unfold tkV tkP
  rw [if_pos h',if_pos (.inl h')]; exact ⟨rfl,rfl⟩
theorem tk_1 {j:Nat} (hj:j=tkN b p) (h0:¬ belowV b (tkS b p j).2 40=0) (h:belowV b (tkS b p j).2 40=1):[(⟨offV b (belowP b (tkS b p j).2 40) 0 29,offV b (offP b (belowP b (tkS b p j).2 40) 0 29) 0 4⟩:Entry)]=tkV b p∧offP b (offP b (belowP b (tkS b p j).2 40) 0 29) 0 4=tkP b p:=by
  subst hj
  have h0':¬ belowV b (tkQ b p) 40=0:=h0
  have h':belowV b (tkQ b p) 40=1:=h
  unfold tkV tkP
  rw [if_neg h0',if_pos h',if_pos (.inr h')]; exact ⟨rfl,rfl⟩
theorem tk_2 {j:Nat} (hj:j=tkN b p) (h0:¬ belowV b (tkS b p j).2 40=0) (h:¬ belowV b (tkS b p j).2 40=1):(tkS b p j).1=tkV b p∧belowP b (tkS b p j).2 40=tkP b p:=by
  subst hj
  have h0':¬ belowV b (tkQ b p) 40=0:=h0
  have h':¬ belowV b (tkQ b p) 40=1:=h
  unfold tkV tkP
  rw [if_neg h0',if_neg h',if_neg (fun h9=>h9.elim h0' h')]; exact ⟨rfl,rfl⟩
theorem down_any {j x:Int} (h:0≤x∧x≤1000) (hj:0≤j∧j≤x):IntKind.wrap .i64 (x - j - 1)=x - (j+1):=by
  rw [wrap_le (by omega) (by omega)]; omega
theorem tkV_len (h:Rdr.ok b p):(tkV b p).length≤5:=by
  have h1:=belowV_bnd (n:=4) h (by omega)
  have h2:=tkS_len (b:=b) (p:=p) (tkN b p)
  have h3:tkN b p≤4:=by unfold tkN; omega
  unfold tkV
  repeat' split
  all_goals simp; try omega
def TabSz (d:Decl) (t:List Env):Prop:=(t.length:Int)=leavesOf d∧∀ x∈t,Sized d x
theorem tbV_sz (h:Rdr.ok b p) (hf:d.flags.length≤3):TabSz d (tbV b p d):=⟨tbV_len hf,tbV_sized h⟩
theorem join_sz {x y:List Env} (hx:TabSz d x) (hy:TabSz d y):TabSz d (zip2 Env.join x y):=by
  refine ⟨by rw [zip2_len]; exact hx.1,fun z hz=>?_⟩
  obtain ⟨i,hi,rfl⟩:=zip2_mem hz
  have h1:=hx.1
  have h2:=hy.1
  exact join_sized (hx.2 _ (getD_mem hi)) (hy.2 _ (getD_mem (by omega)))
theorem sz_small (hd:d.vars.length≤1048576∧d.arrays.length≤1048576) (hf:d.flags.length≤3) {x:List Env} (hx:TabSz d x):Small 1048576 x:=by
  have h1:=hx.1
  have h2:=leaves_bnd hf
  refine ⟨by omega,fun z hz=>?_⟩
  have h3:=hx.2 z hz
  exact ⟨Nat.le_trans h3.2.1 hd.1,Nat.le_trans h3.2.2.1 hd.2⟩
theorem sz_pair (hd:d.vars.length≤1048576∧d.arrays.length≤1048576) (hf:d.flags.length≤3) {x y:List Env} (hx:TabSz d x) (hy:TabSz d y):PairOk x y:=by
  have h1:=sz_small hd hf hx
  have h2:=sz_small hd hf hy
  have h3:=hx.1
  have h4:=hy.1
  refine ⟨⟨by omega,h1.1⟩,fun i hi l1 l2=>?_,h1.2,h2.2⟩
  have h5:=(hx.2 _ (getD_mem hi)).1 l1
  have h6:=(hy.2 _ (getD_mem (j:=i) (by omega))).1 l2
  omega
def ptT (b:List Int) (d:Decl) (q:Int):Part:=⟨tkV b q,tbV b (tkP b q) d⟩
def ptS (b:List Int) (d:Decl) (p:Int):Nat→List Part × Int
  | 0=>([],belowP b p 3)
  | j+1=>(if tokOk (ptT b d (ptS b d p j).2).token=true∧(ptT b d (ptS b d p j).2).table.any Env.live=true then putV (putF false []) (ptS b d p j).1 (ptT b d (ptS b d p j).2) else (ptS b d p j).1,tbP b (tkP b (ptS b d p j).2) d)
def ptN (b:List Int) (p:Int):Nat:=(1+belowV b p 3).toNat
def ptV (b:List Int) (p:Int) (d:Decl):List Part:=(ptS b d p (ptN b p)).1
def ptP (b:List Int) (p:Int) (d:Decl):Int:=(ptS b d p (ptN b p)).2
theorem Rdr.ok.ptS (h:Rdr.ok b p):∀ j,Rdr.ok b (ptS b d p j).2
  | 0=>h.below (n:=3)
  | j+1=>(Rdr.ok.ptS h j).tk.tb
theorem Rdr.ok.pt (h:Rdr.ok b p):Rdr.ok b (ptP b p d):=h.ptS _
section
variable {j:Nat}
theorem pt_1 (h:tokOk (tkV b (ptS b d p j).2)=true∧(tbV b (tkP b (ptS b d p j).2) d).any Env.live=true):putV (putF false []) (ptS b d p j).1 ⟨tkV b (ptS b d p j).2,tbV b (tkP b (ptS b d p j).2) d⟩=(ptS b d p (j+1)).1:=by
  have h':tokOk (ptT b d (ptS b d p j).2).token=true∧(ptT b d (ptS b d p j).2).table.any Env.live=true:=h
  show _=if _ then _ else _
  rw [if_pos h']; rfl
theorem pt_0 (h:tokOk (tkV b (ptS b d p j).2)=false∨(tbV b (tkP b (ptS b d p j).2) d).any Env.live=false):(ptS b d p j).1=(ptS b d p (j+1)).1:=by
  have h':¬ (tokOk (ptT b d (ptS b d p j).2).token=true∧(ptT b d (ptS b d p j).2).table.any Env.live=true):=fun h9=>h.elim (fun h1=>Bool.noConfusion (h1.symm.trans h9.1)) fun h1=>Bool.noConfusion (h1.symm.trans h9.2)
  show _=if _ then _ else _
  rw [if_neg h']
theorem pt_end (h:(j:Int)≤1+belowV b p 3) (h1:¬ 1+belowV b p 3 - (j:Int) > 0):j=ptN b p:=by unfold ptN; omega
end
theorem putS_mem {f:List Env→List Env→List Env} {l:List Part} {q:Part}:∀ j,j≤l.length→∀ x∈(putS f l q j).1,x∈l∨x=q∨∃ y∈l,tokCmp y.token q.token=0∧x=⟨y.token,f y.table q.table⟩
  | 0,_,x,hx=>by simp [putS] at hx
  | j+1,hj,x,hx=>by
    have ih:=putS_mem (f:=f) (l:=l) (q:=q) j (by omega)
    have hm:=getD_mem (a:=l) (j:=j) (by omega)
    rw [putS] at hx
    split at hx
    · simp only [List.mem_append,List.mem_singleton] at hx
      rcases hx with (hx | hx) | hx
      · exact ih x hx
      · exact .inr (.inl hx)
      · subst hx; exact .inl hm
    · split at hx
      · rename_i h2
        simp only [List.mem_append,List.mem_singleton] at hx
        rcases hx with hx | hx
        · exact ih x hx
        · exact .inr (.inr ⟨_,hm,h2,hx⟩)
      · simp only [List.mem_append,List.mem_singleton] at hx
        rcases hx with hx | hx
        · exact ih x hx
        · subst hx; exact .inl hm
theorem putV_mem {f:List Env→List Env→List Env} {l:List Part} {q x:Part} (hx:x∈putV f l q):x∈l∨x=q∨∃ y∈l,tokCmp y.token q.token=0∧x=⟨y.token,f y.table q.table⟩:=by
  unfold putV at hx
  split at hx
  · exact putS_mem _ (Nat.le_refl _) x hx
  · simp only [List.mem_append,List.mem_singleton] at hx
    rcases hx with hx | hx
    · exact putS_mem _ (Nat.le_refl _) x hx
    · exact .inr (.inl hx)
theorem putV_len {f:List Env→List Env→List Env} {l:List Part} {q:Part}:(putV f l q).length≤2 * l.length+1:=by
  have:=putS_len (f:=f) (l:=l) (p:=q) l.length
  unfold putV
  split
  · omega
  · simp; omega
def PtOk (d:Decl) (x:Part):Prop:=tokOk x.token=true∧TabSz d x.table
theorem pt_ok (h:Rdr.ok b p) (hf:d.flags.length≤3):∀ j,∀ x∈(ptS b d p j).1,PtOk d x
  | 0,x,hx=>by simp [ptS] at hx
  | j+1,x,hx=>by
    have ih:=pt_ok h hf j
    have hq:Rdr.ok b (ptS b d p j).2:=h.ptS j
    rw [ptS] at hx
    simp only at hx
    split at hx
    · rename_i h1
      have ht:PtOk d (ptT b d (ptS b d p j).2):=⟨h1.1,tbV_sz hq.tk hf⟩
      rcases putV_mem hx with hx | rfl | ⟨y,hy,_,rfl⟩
      · exact ih x hx
      · exact ht
      · exact ⟨(ih y hy).1,join_sz (ih y hy).2 ht.2⟩
    · exact ih x hx
theorem pt_len (b:List Int) (d:Decl) (p:Int):∀ j,(ptS b d p j).1.length+1≤2 ^ j
  | 0=>by simp [ptS]
  | j+1=>by
    have ih:=pt_len b d p j
    have h2:2 ^ (j+1)=2 * 2 ^ j:=by rw [Nat.pow_succ]; omega
    rw [ptS]
    simp only
    split
    · have:=putV_len (f:=putF false []) (l:=(ptS b d p j).1) (q:=ptT b d (ptS b d p j).2)
      omega
    · omega
theorem pt_len4 {j:Nat} (h:j≤3):(ptS b d p j).1.length≤7:=by
  have h1:=pt_len b d p j
  have h2:j=0∨j=1∨j=2∨j=3:=by omega
  rcases h2 with rfl | rfl | rfl | rfl<;>simp only [Nat.reducePow] at h1<;>omega
theorem ok_psmall (hd:d.vars.length≤1048576∧d.arrays.length≤1048576) (hf:d.flags.length≤3) {x:Part} (hx:PtOk d x):Part.small x:=by
  have h1:=(tokOk_iff hx.1).1
  exact ⟨by omega,sz_small hd hf hx.2⟩
theorem ptV_len (h:Rdr.ok b p):(ptV b p d).length≤7:=by
  have h1:=belowV_bnd (n:=3) h (by omega)
  unfold ptV
  exact pt_len4 (by unfold ptN; omega)
def hpV (b:List Int) (p:Int) (l:List Part):List Part :=
  if belowV b p 24=0 then l++[⟨tkV b (belowP b p 24),[]⟩]
  else if belowV b p 24=1 then if (l.length:Int) > 0 then l.set 0 ⟨(l.getD 0 default).token,htV b (belowP b p 24) (l.getD 0 default).table⟩ else l
  else if belowV b p 24=2 then if (l.length:Int) > 1 then l.set 0 ⟨(l.getD 1 default).token,(l.getD 0 default).table⟩ else l
  else l
def hpP (b:List Int) (p:Int) (l:List Part):Int:=if belowV b p 24=0 then tkP b (belowP b p 24) else if belowV b p 24=1∧(l.length:Int) > 0 then htP b (belowP b p 24) else belowP b p 24
section
variable {l:List Part}
theorem hp_0 (h:belowV b p 24=0):l++[⟨tkV b (belowP b p 24),[]⟩]=hpV b p l∧tkP b (belowP b p 24)=hpP b p l:=by unfold hpV hpP; rw [if_pos h,if_pos h]; exact ⟨rfl,rfl⟩
theorem hp_1 (h0:¬ belowV b p 24=0) (h:belowV b p 24=1) (hl:(l.length:Int) > 0):l.set 0 ⟨(l.getD 0 default).token,htV b (belowP b p 24) (l.getD 0 default).table⟩=hpV b p l∧htP b (belowP b p 24)=hpP b p l:=by
  unfold hpV hpP; rw [if_neg h0,if_neg h0,if_pos h,if_pos hl,if_pos ⟨h,hl⟩]; exact ⟨rfl,rfl⟩
theorem hp_1n (h0:¬ belowV b p 24=0) (h:belowV b p 24=1) (hl:¬ (l.length:Int) > 0):l=hpV b p l∧belowP b p 24=hpP b p l:=by
  unfold hpV hpP; rw [if_neg h0,if_neg h0,if_pos h,if_neg hl,if_neg (fun h9=>hl h9.2)]; exact ⟨rfl,rfl⟩
theorem hp_2 (h0:¬ belowV b p 24=0) (h1:¬ belowV b p 24=1) (h:belowV b p 24=2) (hl:(l.length:Int) > 1):l.set 0 ⟨(l.getD 1 default).token,(l.getD 0 default).table⟩=hpV b p l∧belowP b p 24=hpP b p l:=by
  unfold hpV hpP; rw [if_neg h0,if_neg h0,if_neg h1,if_pos h,if_pos hl,if_neg (fun h9=>h1 h9.1)]; exact ⟨rfl,rfl⟩
theorem hp_2n (h0:¬ belowV b p 24=0) (h1:¬ belowV b p 24=1) (h:belowV b p 24=2) (hl:¬ (l.length:Int) > 1):l=hpV b p l∧belowP b p 24=hpP b p l:=by
  unfold hpV hpP; rw [if_neg h0,if_neg h0,if_neg h1,if_pos h,if_neg hl,if_neg (fun h9=>h1 h9.1)]; exact ⟨rfl,rfl⟩
theorem hp_3 (h0:¬ belowV b p 24=0) (h1:¬ belowV b p 24=1) (h:¬ belowV b p 24=2):l=hpV b p l∧belowP b p 24=hpP b p l:=by
  unfold hpV hpP; rw [if_neg h0,if_neg h0,if_neg h1,if_neg h,if_neg (fun h9=>h1 h9.1)]; exact ⟨rfl,rfl⟩
end
theorem Rdr.ok.hp {l:List Part} (h:Rdr.ok b p):Rdr.ok b (hpP b p l):=by
  unfold hpP
  repeat' split
  · exact h.below.tk
  · exact h.below.ht
  · exact h.below
section
variable {c:List Int}
theorem decl_hd {u:Int}:((declV c u).vars.length≤1048576∧(declV c u).arrays.length≤1048576)∧(declV c u).flags.length≤3:=⟨d_hd,decl_len.2.1⟩
theorem pt_small {q u:Int} (h:Rdr.ok c q):(ptV c q (declV c u)).length≤7∧∀ x∈ptV c q (declV c u),PtOk (declV c u) x∧Part.small x∧1≤x.table.length :=
  ⟨ptV_len h,fun x hx=>by
    have h1:=pt_ok h decl_hd.2 _ x hx
    have h2:=leaves_bnd (d:=declV c u) decl_hd.2
    have h3:=h1.2.1
    exact ⟨h1,ok_psmall decl_hd.1 decl_hd.2 h1,by omega⟩⟩
theorem hp_small {q u v:Int} (h:Rdr.ok c q) (hv:Rdr.ok c v) {l:List Part} (hl:l.length≤7) (h1:∀ x∈l,PtOk (declV c u) x∧Part.small x∧1≤x.table.length):(hpV c v l).length≤8∧∀ x∈hpV c v l,Part.small x:=by
  have hs:∀ x∈l,Part.small x:=fun x hx=>(h1 x hx).2.1
  unfold hpV
  split
  · refine ⟨by simp; omega,fun x hx=>?_⟩
    simp only [List.mem_append,List.mem_singleton] at hx
    rcases hx with hx | rfl
    · exact hs x hx
    · exact ⟨by have:=tkV_len (hv.below (n:=24)); show (tkV _ _).length≤_; omega,⟨by simp,by simp⟩⟩
  · split
    · split
      · rename_i hn
        refine ⟨by simp; omega,fun x hx=>?_⟩
        rcases List.mem_or_eq_of_mem_set hx with hx | rfl
        · exact hs x hx
        · have h2:=h1 _ (getD_mem (a:=l) (j:=0) (by omega))
          have h3:=ht_sized (p:=belowP c v 24) h2.1.2.2 h2.2.2
          refine ⟨h2.2.1.1,⟨?_,fun y hy=>?_⟩⟩
          · have h4:=ht_len (b:=c) (p:=belowP c v 24) (t:=(l.getD 0 default).table)
            have h5:=leaves_bnd (d:=declV c u) decl_hd.2
            have h6:=h2.1.2.1
            show (htV _ _ _).length≤_
            omega
          · have h4:=h3 y hy
            exact ⟨by have:=h4.1; omega,by have:=h4.2.1; omega⟩
      · exact ⟨by omega,hs⟩
    · split
      · split
        · rename_i hn
          refine ⟨by simp; omega,fun x hx=>?_⟩
          rcases List.mem_or_eq_of_mem_set hx with hx | rfl
          · exact hs x hx
          · exact ⟨(hs _ (getD_mem (a:=l) (j:=1) (by omega))).1,(hs _ (getD_mem (a:=l) (j:=0) (by omega))).2⟩
        · exact ⟨by omega,hs⟩
      · exact ⟨by omega,hs⟩
end
theorem set_mixed {A:List (List D)} {i:Nat} {a b c:List D} (h:c=b):(A.set i a).set i c=A.set i b:=by rw [h,List.set_set]
theorem erase_mixed {α:Type} {f f':α→List D} (h:∀ x,(f x).map D.erase=f' x) {L:List α} {i:Nat} {b:List D} {x:α} (hb:b.map D.erase=f' x):((List.map f L).set i b).map (fun x=>x.map D.erase)=List.map f' (L.set i x):=by
  rw [List.map_set,erase_rows h,List.map_set,hb]
end Go.Proofs

namespace Go.Proofs
open Go Go.Ev
variable [Lay]
theorem part_eta (p:Part):(⟨p.token,p.table⟩:Part)=p:=by cases p; rfl
theorem mem_get {l:List Part} {p:Part}:p∈l↔∃ i,i < l.length∧l.getD i default=p:=by
  constructor
  · intro h
    obtain ⟨i,hi,e⟩:=List.getElem_of_mem h
    exact ⟨i,hi,by rw [List.getD_eq_getElem?_getD,List.getElem?_eq_getElem hi]; exact e⟩
  · rintro ⟨i,hi,rfl⟩
    exact getD_mem hi
section
variable {Q:List Env→Prop} {F:List Env→List Env→List Env} {l m:List Part} {p q:Part}
theorem RiseP.one (h:RiseP l) (hp:p∈l) (hq:q∈l) (e:p.token=q.token):p=q:=by
  obtain ⟨i,hi,rfl⟩:=mem_get.1 hp
  obtain ⟨k,hk,rfl⟩:=mem_get.1 hq
  rcases Nat.lt_trichotomy i k with h1 | h1 | h1
  · have:=h.up i k h1 hk; rw [e] at this; omega
  · rw [h1]
  · have:=h.up k i h1 hi; rw [e] at this; omega
theorem RiseP.tokM (h:RiseP l) (hp:p∈l):tokOk p.token=true:=by
  obtain ⟨i,hi,rfl⟩:=mem_get.1 hp; exact h.tok i hi
theorem partB_mem (h:RiseP l) {t:List Entry} (ht:tokOk t=true):partB l t=true↔∃ q∈l,q.token=t:=by
  have key:=partB_key (p:=⟨t,[]⟩) h ht
  constructor
  · intro hb
    have h1:=partB_lt hb
    refine ⟨_,getD_mem h1,?_⟩
    unfold partB at hb
    exact tokCmp_zero (eq_of_beq (Bool.and_eq_true_iff.1 hb).2)
  · rintro ⟨q,hq,e⟩
    obtain ⟨i,hi,rfl⟩:=mem_get.1 hq
    obtain ⟨c1,c2,c3⟩:=part_cut (p:=⟨t,[]⟩) h ht
    refine key.2 ?_
    have h1:¬ i < partI l t:=fun h9=>by have:=c2 i h9 hi; simp only [e] at this; omega
    refine ⟨by show partI l t < l.length; omega,?_⟩
    show tokKey (l.getD (partI l t) default).token=tokKey t
    rcases Nat.lt_or_ge (partI l t) i with h2 | h2
    · have h3:=h.up (partI l t) i h2 hi
      have h4:=c3 (partI l t) (Nat.le_refl _) (by show partI l t < l.length; omega)
      simp only [e] at h3 h4; omega
    · rw [show partI l t=i by omega,e]
theorem part_found (h:RiseP l) (hq:q∈l):l.getD (partI l q.token) default=q:=by
  have hb:=(partB_mem h (h.tokM hq)).2 ⟨q,hq,rfl⟩
  have h1:=partB_lt hb
  refine h.one (getD_mem h1) hq ?_
  unfold partB at hb
  exact tokCmp_zero (eq_of_beq (Bool.and_eq_true_iff.1 hb).2)
theorem rise_ext:∀ {l m:List Part},l.Pairwise (fun p q=>tokKey p.token < tokKey q.token)→m.Pairwise (fun p q=>tokKey p.token < tokKey q.token)→(∀ p,p∈l↔p∈m)→l=m
  | [],[],_,_,_=>rfl
  | [],y::m,_,_,h=>by have:=(h y).2 (by simp); simp at this
  | x::l,[],_,_,h=>by have:=(h x).1 (by simp); simp at this
  | x::l,y::m,hl,hm,h=>by
    rw [List.pairwise_cons] at hl hm
    have e:x=y:=by
      rcases List.mem_cons.1 ((h x).1 (by simp)) with h1 | h1
      · exact h1
      · rcases List.mem_cons.1 ((h y).2 (by simp)) with h2 | h2
        · exact h2.symm
        · have a1:=hm.1 x h1
          have a2:=hl.1 y h2
          omega
    subst e
    congr 1
    refine rise_ext hl.2 hm.2 fun p=>⟨fun hp=>?_,fun hp=>?_⟩
    · rcases List.mem_cons.1 ((h p).1 (List.mem_cons_of_mem _ hp)) with h1 | h1
      · subst h1; have:=hl.1 p hp; omega
      · exact h1
    · rcases List.mem_cons.1 ((h p).2 (List.mem_cons_of_mem _ hp)) with h1 | h1
      · subst h1; have:=hm.1 p hp; omega
      · exact h1
theorem RiseP.pw (h:RiseP l):l.Pairwise (fun p q=>tokKey p.token < tokKey q.token):=by
  rw [List.pairwise_iff_getElem]
  intro i j hi hj hij
  have:=h.up i j hij hj
  rwa [List.getD_eq_getElem?_getD,List.getElem?_eq_getElem hi,List.getD_eq_getElem?_getD,List.getElem?_eq_getElem hj] at this
theorem RiseP.ext (hl:RiseP l) (hm:RiseP m) (h:∀ p,p∈l↔p∈m):l=m:=rise_ext hl.pw hm.pw h
theorem mem_ins (h:RiseP l) (ht:tokOk p.token=true):q∈insP F l p↔(q∈l∧q.token≠p.token)∨(q.token=p.token∧((∃ x,(⟨q.token,x⟩:Part)∈l∧q.table=F x p.table)∨((∀ x,(⟨q.token,x⟩:Part) ∉ l)∧q.table=p.table))):=by
  by_cases hb:partB l p.token=true
  · rw [insP_T hb]
    have h1:=partB_lt hb
    have h2:(l.getD (partI l p.token) default).token=p.token:=by
      unfold partB at hb
      exact tokCmp_zero (eq_of_beq (Bool.and_eq_true_iff.1 hb).2)
    rw [mem_get]
    simp only [List.length_set,set_get9 h1]
    constructor
    · rintro ⟨i,hi,e⟩
      split at e
      · rename_i e1
        subst e
        exact .inr ⟨h2,.inl ⟨(l.getD (partI l p.token) default).table,by
          show (⟨(l.getD (partI l p.token) default).token,(l.getD (partI l p.token) default).table⟩:Part)∈l
          rw [part_eta]; exact getD_mem h1,rfl⟩⟩
      · rename_i e1
        subst e
        refine .inl ⟨getD_mem hi,fun e2=>e1 ?_⟩
        have h3:=h.one (getD_mem hi) (getD_mem h1) (e2.trans h2.symm)
        rcases Nat.lt_trichotomy (partI l p.token) i with h4 | h4 | h4
        · have:=h.up _ _ h4 hi; rw [h3] at this; omega
        · exact h4
        · have:=h.up _ _ h4 h1; rw [h3] at this; omega
    · rintro (⟨h3,h4⟩ | ⟨h3,h4⟩)
      · obtain ⟨i,hi,rfl⟩:=mem_get.1 h3
        refine ⟨i,hi,?_⟩
        rw [if_neg]
        intro e; rw [← e] at h4; exact h4 h2
      · rcases h4 with ⟨x,hx,e⟩ | ⟨hx,_⟩
        · refine ⟨_,h1,?_⟩
          rw [if_pos rfl]
          have h5:=h.one (getD_mem h1) hx (h2.trans h3.symm)
          rw [h5]
          show (⟨q.token,F x p.table⟩:Part)=q
          rw [← e]
        · have h9:(⟨q.token,(l.getD (partI l p.token) default).table⟩:Part)∈l:=by rw [h3.trans h2.symm,part_eta]; exact getD_mem h1
          exact absurd h9 (hx _)
  · have hb':partB l p.token=false:=by simpa using hb
    rw [insP_F hb']
    have hno:∀ z∈l,z.token≠p.token:=fun z hz e=>hb ((partB_mem h ht).2 ⟨z,hz,e⟩)
    have e0:(q∈l.take (partI l p.token)++[p]++l.drop (partI l p.token))↔(q∈l∨q=p):=by
      simp only [List.mem_append,List.mem_singleton]
      have h9:q∈l↔(q∈l.take (partI l p.token)∨q∈l.drop (partI l p.token)):=by
        conv=>lhs; rw [← List.take_append_drop (partI l p.token) l]
        exact List.mem_append
      rw [h9]
      constructor
      · rintro ((h1 | h1) | h1)
        · exact .inl (.inl h1)
        · exact .inr h1
        · exact .inl (.inr h1)
      · rintro ((h1 | h1) | h1)
        · exact .inl (.inl h1)
        · exact .inr h1
        · exact .inl (.inr h1)
    rw [e0]
    constructor
    · rintro (h1 | h1)
      · exact .inl ⟨h1,hno q h1⟩
      · subst h1
        exact .inr ⟨rfl,.inr ⟨fun x hx=>hno ⟨q.token,x⟩ hx rfl,rfl⟩⟩
    · rintro (⟨h1,_⟩ | ⟨h1,h2⟩)
      · exact .inl h1
      · rcases h2 with ⟨x,hx,_⟩ | ⟨_,e⟩
        · exact absurd h1 (hno ⟨q.token,x⟩ hx)
        · refine .inr ?_
          rw [← part_eta q,← part_eta p,h1,e]
def Both9 (F:List Env→List Env→List Env) (l m:List Part) (q:Part):Prop :=
  (∃ x y,(⟨q.token,x⟩:Part)∈l∧(⟨q.token,y⟩:Part)∈m∧q.table=F x y)∨(q∈l∧∀ y,(⟨q.token,y⟩:Part) ∉ m)∨((∀ x,(⟨q.token,x⟩:Part) ∉ l)∧q∈m)
theorem mem_uni (h:Uni Q l) (hm:Uni Q m) (hF:∀ a b,Q a→Q b→Q (F a b)):∀ j,j≤m.length→∀ q,q∈uniI F l m j↔Both9 F l (m.take j) q
  | 0,_,q=>by simp [uniI,Both9]
  | j+1,hj,q=>by
    have ih:=mem_uni h hm hF j (by omega)
    obtain ⟨i1,_⟩:=Uni.all h hm hF j (by omega)
    show q∈insP F (uniI F l m j) (m.getD j default)↔_
    have ht:=hm.rise.tok j (by omega)
    rw [mem_ins i1.rise ht,take_succ9 (by omega:j < m.length)]
    have hfr:∀ y,(⟨(m.getD j default).token,y⟩:Part) ∉ m.take j:=fun y hy=>by
      obtain ⟨i,hi,e⟩:=mem_get.1 hy
      have hij:i < j:=by rw [List.length_take] at hi; omega
      have h9:=hm.rise.up i j hij (by omega)
      have e2:m.getD i default=⟨(m.getD j default).token,y⟩:=by
        rw [← e,List.getD_eq_getElem?_getD,List.getD_eq_getElem?_getD,List.getElem?_take,if_pos hij]
      rw [e2] at h9
      simp at h9
    have hin:∀ y,(⟨q.token,y⟩:Part)∈m.take j++[m.getD j default]↔((⟨q.token,y⟩:Part)∈m.take j∨(q.token=(m.getD j default).token∧y=(m.getD j default).table)):=fun y=>by
      rw [List.mem_append,List.mem_singleton]
      constructor
      · rintro (h1 | h1)
        · exact .inl h1
        · exact .inr ⟨by have h9:=congrArg Part.token h1; exact h9,by have h9:=congrArg Part.table h1; exact h9⟩
      · rintro (h1 | ⟨h1,h2⟩)
        · exact .inl h1
        · refine .inr ?_
          rw [← part_eta (m.getD j default),h1,h2]
    by_cases ht9:q.token=(m.getD j default).token
    · have hnot:∀ y,(⟨q.token,y⟩:Part) ∉ m.take j:=fun y=>by rw [ht9]; exact hfr y
      have hin2:∀ y,(⟨q.token,y⟩:Part)∈m.take j++[m.getD j default]↔y=(m.getD j default).table:=fun y=>by
        rw [hin]
        exact ⟨fun h1=>h1.elim (fun h2=>absurd h2 (hnot y)) (fun h2=>h2.2),fun h1=>.inr ⟨ht9,h1⟩⟩
      have hold:∀ x,(⟨q.token,x⟩:Part)∈uniI F l m j↔(⟨q.token,x⟩:Part)∈l:=fun x=>by
        rw [ih]
        constructor
        · rintro (⟨_,y,_,h2,_⟩ | ⟨h1,_⟩ | ⟨_,h1⟩)
          · exact absurd h2 (hnot y)
          · exact h1
          · exact absurd h1 (hnot x)
        · intro h1
          exact .inr (.inl ⟨h1,fun y=>hnot y⟩)
      constructor
      · rintro (⟨_,h1⟩ | ⟨_,⟨x,hx,e⟩ | ⟨hx,e⟩⟩)
        · exact absurd ht9 h1
        · exact .inl ⟨x,_,(hold x).1 hx,(hin2 _).2 rfl,e⟩
        · refine .inr (.inr ⟨fun x h1=>hx x ((hold x).2 h1),?_⟩)
          rw [← part_eta q]; exact (hin2 _).2 e
      · rintro (⟨x,y,h1,h2,e⟩ | ⟨h1,h2⟩ | ⟨h1,h2⟩)
        · refine .inr ⟨ht9,.inl ⟨x,(hold x).2 h1,?_⟩⟩
          rw [e,(hin2 y).1 h2]
        · exact absurd ((hin2 _).2 rfl) (h2 _)
        · refine .inr ⟨ht9,.inr ⟨fun x h3=>h1 x ((hold x).1 h3),?_⟩⟩
          rw [← part_eta q] at h2
          exact (hin2 _).1 h2
    · have hin3:∀ y,(⟨q.token,y⟩:Part)∈m.take j++[m.getD j default]↔(⟨q.token,y⟩:Part)∈m.take j:=fun y=>by
        rw [hin]
        exact ⟨fun h1=>h1.elim id (fun h2=>absurd h2.1 ht9),.inl⟩
      have hq3:q∈m.take j++[m.getD j default]↔q∈m.take j:=by
        have:=hin3 q.table
        rwa [part_eta] at this
      constructor
      · rintro (⟨h1,_⟩ | ⟨h1,_⟩)
        · unfold Both9
          simp only [hin3,hq3]
          exact (ih q).1 h1
        · exact absurd h1 ht9
      · intro h1
        unfold Both9 at h1
        simp only [hin3,hq3] at h1
        exact .inl ⟨(ih q).2 h1,ht9⟩
theorem mem_all (h:Uni Q l) (hm:Uni Q m) (hF:∀ a b,Q a→Q b→Q (F a b)) (q:Part):q∈uniI F l m m.length↔Both9 F l m q:=by
  have:=mem_uni h hm hF m.length (Nat.le_refl _) q
  rwa [List.take_of_length_le (Nat.le_refl _)] at this
theorem leq_mem (hm:RiseP m) (hl:∀ p∈l,tokOk p.token=true):Parts.leq l m=true↔∀ p∈l,∃ y,(⟨p.token,y⟩:Part)∈m∧tabLeq p.table y=true:=by
  unfold Parts.leq allTo
  simp only [List.all_eq_true,List.mem_range,Bool.and_eq_true]
  constructor
  · intro h p hp
    obtain ⟨i,hi,rfl⟩:=mem_get.1 hp
    obtain ⟨h1,h2⟩:=h i hi
    obtain ⟨q,hq,e⟩:=(partB_mem hm (hl _ hp)).1 h1
    have h3:=part_found hm hq
    rw [e] at h3
    rw [h3] at h2
    exact ⟨q.table,by rw [← e,part_eta]; exact hq,h2⟩
  · intro h i hi
    obtain ⟨y,h1,h2⟩:=h _ (getD_mem hi)
    refine ⟨(partB_mem hm (hl _ (getD_mem hi))).2 ⟨_,h1,rfl⟩,?_⟩
    have h3:=part_found hm h1
    simp only at h3
    rw [h3]; exact h2
end
theorem Part.same_iff {a b:Part}:Part.same a b=true↔a=b:=by
  constructor
  · intro h
    unfold Part.same at h
    rw [Bool.and_eq_true] at h
    have h1:a.token=b.token:=all2_eq (fun {x y} h=>by
      simp only [Entry.same,Bool.and_eq_true,beq_iff_eq] at h
      cases x; cases y; simp_all) h.1
    have h2:a.table=b.table:=all2_eq (fun h=>Env.same_iff.1 h) h.2
    rw [← part_eta a,← part_eta b,h1,h2]
  · rintro rfl; exact Part.same_self a
section
variable {d:Decl} {x y:List Env} {l:List Int} {f:Iv→Iv→Iv}
theorem leq_split (h:Table.leq d x y=true):Table.isIn d y=true∧tabLeq x y=true:=by
  unfold Table.leq at h; simp only [Bool.and_eq_true] at h; exact ⟨h.1.2,h.2⟩
theorem zip2_self {g:Iv→Iv→Iv} {a:List Iv} (h:∀ z∈a,g z z=z):zip2 g a a=a:=by
  refine list_ext9 (zip2_len _ _ _) fun i hi=>?_
  rw [zip2_len] at hi
  rw [zip2_get9 hi]; exact h _ (getD_mem hi)
theorem widen_selfT (hx:Table.ok d x=true) (hl:¬ (l.length:Int) > 100):zip2 (Env.joinW fun a b=>Iv.widenOk l a b) x x=x:=by
  refine list_ext9 (zip2_len _ _ _) fun i hi=>?_
  rw [zip2_len] at hi
  rw [zip2_get9 hi]
  have ho:=(Table.isIn_get (Table.ok_in hx)).2 i hi
  have hw:∀ z:Iv,Iv.ok z=true→Iv.widenOk l z z=z:=fun z hz=>by
    rw [Iv.widenOk_yes ⟨⟨hz,hz⟩,hl⟩]
    unfold Iv.widen
    rw [if_neg (by omega),if_neg (by omega)]
  unfold Env.joinW
  split
  · rename_i h1
    have h2:=okIn_all ho h1
    rw [zip2_self fun z hz=>hw z (h2.1 z hz),zip2_self fun z hz=>hw z (h2.2 z hz)]
    cases h9:x.getD i default
    rw [h9] at h1
    simp only at h1
    rw [h1]
  · rfl
theorem tabLeq_self (hx:Table.ok d x=true):tabLeq x x=true:=by
  unfold tabLeq allTo
  rw [List.all_eq_true]
  intro i hi
  have hi:=List.mem_range.1 hi
  have ho:=(Table.isIn_get (Table.ok_in hx)).2 i hi
  have hv:∀ z:Iv,Iv.ok z=true→Iv.leq z z=true:=fun z hz=>by unfold Iv.leq; rw [hz]; simp
  unfold Env.leq
  split
  · rename_i h1
    have h2:=okIn_all ho h1
    simp only [allTo,Bool.and_eq_true,List.all_eq_true,List.mem_range]
    exact ⟨fun k hk=>hv _ (h2.1 _ (getD_mem hk)),fun k hk=>hv _ (h2.2 _ (getD_mem hk))⟩
  · rfl
theorem live_zip (hl:x.length=y.length) (h:x.any Env.live=true):(zip2 (Env.joinW f) x y).any Env.live=true:=by
  rw [List.any_eq_true] at h ⊢
  obtain ⟨e,he,h1⟩:=h
  obtain ⟨i,hi,rfl⟩:=List.getElem_of_mem he
  refine ⟨(zip2 (Env.joinW f) x y).getD i default,getD_mem (by rw [zip2_len]; exact hi),?_⟩
  rw [zip2_get9 hi]
  have h2:(x.getD i default).live=true:=by rw [List.getD_eq_getElem?_getD,List.getElem?_eq_getElem hi]; exact h1
  unfold Env.joinW
  rw [if_pos h2]
  split
  · rfl
  · exact h2
theorem pair_law (hx:Table.ok d x=true) (hy:Table.ok d y=true) (hl:¬ (l.length:Int) > 100) (fy:∀ e∈y,FitE e) :
    Table.isIn d (zip2 (Env.joinW Iv.joinOk) x y)=true∧tabLeq x (zip2 (Env.joinW Iv.joinOk) x y)=true∧tabLeq y (zip2 (Env.joinW Iv.joinOk) x y)=true∧Table.isIn d (zip2 (Env.joinW fun a b=>Iv.widenOk l a b) x y)=true ∧
    tabLeq (zip2 (Env.joinW Iv.joinOk) x y) (zip2 (Env.joinW fun a b=>Iv.widenOk l a b) x y)=true∧(tabLeq x y=true→zip2 (Env.joinW Iv.joinOk) x y=y) ∧
    zip2 (Env.joinW fun a b=>Iv.widenOk l a b) (zip2 (Env.joinW fun a b=>Iv.widenOk l a b) x y) (zip2 (Env.joinW Iv.joinOk) x y)=zip2 (Env.joinW fun a b=>Iv.widenOk l a b) x y:=by
  obtain ⟨h1,h2,h3,h4,h5⟩:=law_TableOrder hx hy hl fy
  have ib:=Table.ok_in hy
  rw [Table.joinIn_yes2 ⟨hx,ib⟩] at h1 h2 h3 h4 h5
  rw [Table.widenIn_yes2 ⟨⟨hx,ib⟩,hl⟩] at h3 h5
  have j1:=leq_split h1
  have w1:=leq_split h3
  refine ⟨j1.1,j1.2,(leq_split h2).2,w1.1,w1.2,fun h=>?_,?_⟩
  · have h6:Table.leq d x y=true:=by unfold Table.leq; rw [hx,ib,h]; rfl
    rw [h6] at h4
    exact all2_eq (fun h=>Env.same_iff.1 h) h4.symm
  · have okw:Table.ok d (zip2 (Env.joinW fun a b=>Iv.widenOk l a b) x y)=true:=by unfold Table.ok; rw [Table.ok_decl hx,w1.1]; rfl
    rwa [Table.widenIn_yes2 ⟨⟨okw,j1.1⟩,hl⟩] at h5
end
theorem isIn_of {d:Decl} {l:List Part} (h:RiseP l) (hn:l.length≤100) (ho:∀ p∈l,Part.ok d p=true):Parts.isIn d l=true:=by
  unfold Parts.isIn
  rw [decide_eq_true hn,Bool.and_true,Bool.and_eq_true]
  refine ⟨?_,List.all_eq_true.2 ho⟩
  unfold risesTo allTo
  rw [List.all_eq_true]
  intro i hi
  have hi:=List.mem_range.1 hi
  rw [decide_eq_true_eq,tokCmp_key (h.tok i (by omega)) (h.tok (i+1) (by omega)),cmpI_neg]
  exact h.up i (i+1) (by omega) (by omega)
section
variable {d:Decl} {a b:List Part} {l:List Int}
theorem law_PartsOrder (ha:Parts.ok d a=true) (hb:Parts.ok d b=true) (hn:a.length+b.length≤100) (hl:¬ (l.length:Int) > 100) (fb:∀ p∈b,∀ e∈p.table,FitE e) :
    Parts.leqIn d a (Parts.joinIn d a b)=true∧Parts.leqIn d b (Parts.joinIn d a b)=true∧Parts.leqIn d (Parts.joinIn d a b) (Parts.widenIn d a b l)=true ∧
    Parts.leqIn d a b=all2 Part.same (Parts.joinIn d a b) b∧Parts.widenIn d (Parts.widenIn d a b l) (Parts.joinIn d a b) l=Parts.widenIn d a b l∧Parts.ok d (Parts.joinIn d a b)=true:=by
  have hk:=parts_decl ha
  have ia:=Parts.ok_in ha
  have ib:=Parts.ok_in hb
  have ua:Uni (fun _=>True) a:=⟨RiseP.of ia,fun _ _=>trivial⟩
  have ub:Uni (fun _=>True) b:=⟨RiseP.of ib,fun _ _=>trivial⟩
  have okA:∀ p∈a,Part.ok d p=true:=fun p hp=>by
    obtain ⟨i,hi,rfl⟩:=mem_get.1 hp; exact (Parts.get ia).2.2 i hi
  have okB:∀ p∈b,Part.ok d p=true:=fun p hp=>by
    obtain ⟨i,hi,rfl⟩:=mem_get.1 hp; exact (Parts.get ib).2.2 i hi
  have tOk:∀ p:Part,Part.ok d p=true→Table.ok d p.table=true:=fun p hp=>by unfold Table.ok; rw [hk,Part.ok_tab hp]; rfl
  have ej:Parts.joinIn d a b=uniI (zip2 (Env.joinW Iv.joinOk)) a b b.length:=by
    have h9:=(ua.all ub (F:=zip2 (Env.joinW Iv.joinOk)) (fun _ _ _ _=>trivial) b.length (Nat.le_refl _)).2
    rw [pjoin_yes2 ⟨ha,ib⟩,fewV_yes (by omega)]
  have ew:Parts.widenIn d a b l=uniI (zip2 (Env.joinW fun x y=>Iv.widenOk l x y)) a b b.length:=by
    have h9:=(ua.all ub (F:=zip2 (Env.joinW fun x y=>Iv.widenOk l x y)) (fun _ _ _ _=>trivial) b.length (Nat.le_refl _)).2
    rw [pwiden_yes2 ⟨⟨ha,ib⟩,hl⟩,fewV_yes (by omega)]
  rw [ej,ew]
  obtain ⟨uj,nj⟩:=ua.all ub (F:=zip2 (Env.joinW Iv.joinOk)) (fun _ _ _ _=>trivial) b.length (Nat.le_refl _)
  obtain ⟨uw,nw⟩:=ua.all ub (F:=zip2 (Env.joinW fun x y=>Iv.widenOk l x y)) (fun _ _ _ _=>trivial) b.length (Nat.le_refl _)
  have mj:=mem_all ua ub (F:=zip2 (Env.joinW Iv.joinOk)) (fun _ _ _ _=>trivial)
  have mw:=mem_all ua ub (F:=zip2 (Env.joinW fun x y=>Iv.widenOk l x y)) (fun _ _ _ _=>trivial)
  generalize uniI (zip2 (Env.joinW Iv.joinOk)) a b b.length=j at *
  generalize hw0:uniI (zip2 (Env.joinW fun x y=>Iv.widenOk l x y)) a b b.length=w at *
  have pair:∀ (x y:List Env) (t:List Entry),(⟨t,x⟩:Part)∈a→(⟨t,y⟩:Part)∈b→_:=fun x y t h1 h2=>pair_law (l:=l) (tOk _ (okA _ h1)) (tOk _ (okB _ h2)) hl (fb _ h2)
  have self:∀ q,Part.ok d q=true→tabLeq q.table q.table=true∧zip2 (Env.joinW fun x y=>Iv.widenOk l x y) q.table q.table=q.table:=fun q hq=>⟨tabLeq_self (tOk q hq),widen_selfT (tOk q hq) hl⟩
  have mkOk:∀ q:Part,∀ x:List Env,(⟨q.token,x⟩:Part)∈a→Table.isIn d q.table=true→q.table.any Env.live=true→Part.ok d q=true:=fun q x h1 h2 h3=>by
    have h4:=Part.ok_tok (okA _ h1)
    unfold Part.ok; rw [h2,h3]
    simp only at h4
    rw [h4]; rfl
  have lens:∀ (x y:List Env) (t:List Entry),(⟨t,x⟩:Part)∈a→(⟨t,y⟩:Part)∈b→x.length=y.length∧x.any Env.live=true:=fun x y t h1 h2=>by
    have h3:=okA _ h1
    have h4:=(Table.fit (Part.ok_tab h3) (Part.ok_tab (okB _ h2))).1
    unfold Part.ok at h3
    exact ⟨h4,(Bool.and_eq_true_iff.1 h3).2⟩
  have okJ:∀ q∈j,Part.ok d q=true:=fun q hq=>by
    rcases (mj q).1 hq with ⟨x,y,h1,h2,e⟩ | ⟨h1,_⟩ | ⟨_,h1⟩
    · refine mkOk q x h1 ?_ ?_
      · rw [e]; exact (pair x y _ h1 h2).1
      · rw [e]; exact live_zip (lens x y _ h1 h2).1 (lens x y _ h1 h2).2
    · exact okA q h1
    · exact okB q h1
  have okW:∀ q∈w,Part.ok d q=true:=fun q hq=>by
    rcases (mw q).1 hq with ⟨x,y,h1,h2,e⟩ | ⟨h1,_⟩ | ⟨_,h1⟩
    · refine mkOk q x h1 ?_ ?_
      · rw [e]; exact (pair x y _ h1 h2).2.2.2.1
      · rw [e]; exact live_zip (lens x y _ h1 h2).1 (lens x y _ h1 h2).2
    · exact okA q h1
    · exact okB q h1
  have inJ:=isIn_of uj.rise (by omega) okJ
  have inW:=isIn_of uw.rise (by omega) okW
  have okj:Parts.ok d j=true:=by unfold Parts.ok; rw [hk,inJ]; rfl
  have okw:Parts.ok d w=true:=by unfold Parts.ok; rw [hk,inW]; rfl
  have jw:∀ p∈j,∃ X,(⟨p.token,X⟩:Part)∈w∧tabLeq p.table X=true∧zip2 (Env.joinW fun x y=>Iv.widenOk l x y) X p.table=X:=fun p hp=>by
    rcases (mj p).1 hp with ⟨x,y,h1,h2,e⟩ | ⟨h1,h2⟩ | ⟨h1,h2⟩
    · refine ⟨_,(mw ⟨p.token,zip2 (Env.joinW fun x y=>Iv.widenOk l x y) x y⟩).2 (.inl ⟨x,y,h1,h2,rfl⟩),?_,?_⟩
      · rw [e]; exact (pair x y _ h1 h2).2.2.2.2.1
      · rw [e]; exact (pair x y _ h1 h2).2.2.2.2.2.2
    · exact ⟨p.table,by rw [part_eta]; exact (mw p).2 (.inr (.inl ⟨h1,h2⟩)),self p (okA p h1)⟩
    · exact ⟨p.table,by rw [part_eta]; exact (mw p).2 (.inr (.inr ⟨h1,h2⟩)),self p (okB p h2)⟩
  have wj:∀ q∈w,∃ Y,(⟨q.token,Y⟩:Part)∈j:=fun q hq=>by
    rcases (mw q).1 hq with ⟨x,y,h1,h2,e⟩ | ⟨h1,h2⟩ | ⟨h1,h2⟩
    · exact ⟨_,(mj ⟨q.token,zip2 (Env.joinW Iv.joinOk) x y⟩).2 (.inl ⟨x,y,h1,h2,rfl⟩)⟩
    · exact ⟨q.table,by rw [part_eta]; exact (mj q).2 (.inr (.inl ⟨h1,h2⟩))⟩
    · exact ⟨q.table,by rw [part_eta]; exact (mj q).2 (.inr (.inr ⟨h1,h2⟩))⟩
  have leqA:Parts.leq a j=true:=(leq_mem uj.rise fun p hp=>Part.ok_tok (okA p hp)).2 fun p hp=>by
    by_cases h:∃ y,(⟨p.token,y⟩:Part)∈b
    · obtain ⟨y,hy⟩:=h
      have hp':(⟨p.token,p.table⟩:Part)∈a:=by rw [part_eta]; exact hp
      exact ⟨zip2 (Env.joinW Iv.joinOk) p.table y,(mj ⟨p.token,zip2 (Env.joinW Iv.joinOk) p.table y⟩).2 (.inl ⟨p.table,y,hp',hy,rfl⟩),(pair _ _ _ hp' hy).2.1⟩
    · exact ⟨p.table,by rw [part_eta]; exact (mj p).2 (.inr (.inl ⟨hp,fun y hy=>h ⟨y,hy⟩⟩)),(self p (okA p hp)).1⟩
  have leqB:Parts.leq b j=true:=(leq_mem uj.rise fun p hp=>Part.ok_tok (okB p hp)).2 fun p hp=>by
    by_cases h:∃ x,(⟨p.token,x⟩:Part)∈a
    · obtain ⟨x,hx⟩:=h
      have hp':(⟨p.token,p.table⟩:Part)∈b:=by rw [part_eta]; exact hp
      exact ⟨zip2 (Env.joinW Iv.joinOk) x p.table,(mj ⟨p.token,zip2 (Env.joinW Iv.joinOk) x p.table⟩).2 (.inl ⟨x,p.table,hx,hp',rfl⟩),(pair _ _ _ hx hp').2.2.1⟩
    · exact ⟨p.table,by rw [part_eta]; exact (mj p).2 (.inr (.inr ⟨fun x hx=>h ⟨x,hx⟩,hp⟩)),(self p (okB p hp)).1⟩
  have leqJ:Parts.leq j w=true:=(leq_mem uw.rise fun p hp=>Part.ok_tok (okJ p hp)).2 fun p hp=>by
    obtain ⟨X,h1,h2,_⟩:=jw p hp; exact ⟨X,h1,h2⟩
  refine ⟨by unfold Parts.leqIn; rw [ha,inJ,leqA]; rfl,by unfold Parts.leqIn; rw [hb,inJ,leqB]; rfl,by unfold Parts.leqIn; rw [okj,inW,leqJ]; rfl,?_,?_,okj⟩
  · have e1:Parts.leqIn d a b=Parts.leq a b:=by unfold Parts.leqIn; rw [ha,ib]; rfl
    rw [e1,Bool.eq_iff_iff]
    constructor
    · intro h
      have h':=(leq_mem ub.rise fun p hp=>Part.ok_tok (okA p hp)).1 h
      have e:j=b:=uj.rise.ext ub.rise fun q=>by
        rw [mj q]
        constructor
        · rintro (⟨x,y,h1,h2,e⟩ | ⟨h1,h2⟩ | ⟨_,h1⟩)
          · obtain ⟨y',h3,h4⟩:=h' _ h1
            have h5:y'=y:=congrArg Part.table (ub.rise.one h3 h2 rfl)
            subst h5
            rw [(pair x y' _ h1 h2).2.2.2.2.2.1 h4] at e
            rw [← part_eta q,e]; exact h2
          · obtain ⟨y',h3,_⟩:=h' _ h1
            exact absurd h3 (h2 y')
          · exact h1
        · intro hq
          by_cases hx:∃ x,(⟨q.token,x⟩:Part)∈a
          · obtain ⟨x,hx⟩:=hx
            have hq':(⟨q.token,q.table⟩:Part)∈b:=by rw [part_eta]; exact hq
            obtain ⟨y',h3,h4⟩:=h' _ hx
            have h5:y'=q.table:=congrArg Part.table (ub.rise.one h3 hq' rfl)
            subst h5
            exact .inl ⟨x,q.table,hx,hq',((pair x q.table _ hx hq').2.2.2.2.2.1 h4).symm⟩
          · exact .inr (.inr ⟨fun x hx'=>hx ⟨x,hx'⟩,hq⟩)
      rw [e]; exact all2_self Part.same_self b
    · intro h
      have e:j=b:=all2_eq (fun h=>Part.same_iff.1 h) h
      rw [e] at leqA; exact leqA
  · rw [pwiden_yes2 ⟨⟨okw,inJ⟩,hl⟩]
    have u1:Uni (fun _=>True) w:=⟨uw.rise,fun _ _=>trivial⟩
    have u2:Uni (fun _=>True) j:=⟨uj.rise,fun _ _=>trivial⟩
    have m2:=mem_all u1 u2 (F:=zip2 (Env.joinW fun x y=>Iv.widenOk l x y)) (fun _ _ _ _=>trivial)
    have u3:=(u1.all u2 (F:=zip2 (Env.joinW fun x y=>Iv.widenOk l x y)) (fun _ _ _ _=>trivial) j.length (Nat.le_refl _)).1
    have e:uniI (zip2 (Env.joinW fun x y=>Iv.widenOk l x y)) w j j.length=w:=u3.rise.ext uw.rise fun q=>by
      rw [m2 q]
      constructor
      · rintro (⟨X,Y,h1,h2,e⟩ | ⟨h1,h2⟩ | ⟨h1,h2⟩)
        · obtain ⟨X',h3,_,h4⟩:=jw _ h2
          have h5:X'=X:=congrArg Part.table (uw.rise.one h3 h1 rfl)
          subst h5
          simp only at h4
          rw [h4] at e
          rw [← part_eta q,e]; exact h1
        · obtain ⟨Y,h3⟩:=wj q h1
          exact absurd h3 (h2 Y)
        · obtain ⟨X,h3,_⟩:=jw q h2
          exact absurd h3 (h1 X)
      · intro hq
        obtain ⟨Y,h3⟩:=wj q hq
        obtain ⟨X',h4,_,h5⟩:=jw _ h3
        have hq':(⟨q.token,q.table⟩:Part)∈w:=by rw [part_eta]; exact hq
        have h6:X'=q.table:=congrArg Part.table (uw.rise.one h4 hq' rfl)
        subst h6
        simp only at h5
        exact .inl ⟨q.table,Y,hq',h3,h5.symm⟩
    rw [e,fewV_yes (by omega)]
end
end Go.Proofs

namespace Go.Proofs
open Go Go.Ev
variable [Lay]
variable {b:List Int} {p:Int} {d:Decl}
theorem pt_rise (h:Rdr.ok b p):∀ j,Uni (fun _=>True) (ptS b d p j).1∧(ptS b d p j).1.length≤j
  | 0=>⟨⟨⟨fun i hi=>by simp [ptS] at hi,fun i k _ hk=>by simp [ptS] at hk⟩,fun _ _=>trivial⟩,by simp [ptS]⟩
  | j+1=>by
    have ih:=pt_rise h j
    rw [ptS]
    simp only
    split
    · rename_i h1
      rw [ins_put ih.1.rise h1.1]
      refine ⟨ih.1.ins h1.1 trivial (fun _ _ _ _=>trivial),?_⟩
      have:=insP_len (F:=putF false []) (l:=(ptS b d p j).1) (p:=ptT b d (ptS b d p j).2)
      omega
    · exact ⟨ih.1,by omega⟩
theorem ptV_rise (h:Rdr.ok b p):Uni (fun _=>True) (ptV b p d)∧(ptV b p d).length≤3:=by
  have h1:=belowV_bnd (n:=3) h (by omega)
  have h2:=pt_rise (d:=d) h (ptN b p)
  unfold ptV
  exact ⟨h2.1,Nat.le_trans h2.2 (by unfold ptN; omega)⟩
def plA0 (c:List Int):List Part:=ptV c (declP c 0) (declV c 0)
def plQ1 (c:List Int):Int:=ptP c (declP c 0) (declV c 0)
def plB0 (c:List Int):List Part:=ptV c (plQ1 c) (declV c 0)
def plQ2 (c:List Int):Int:=ptP c (plQ1 c) (declV c 0)
def plU (c:List Int):List Part:=uniS (putF false []) (plA0 c) (plB0 c) (plB0 c).length
def plB1 (c:List Int):List Part:=if onceV c (plQ2 c) 2=true then fewV (plU c) else plB0 c
def plQ3 (c:List Int):Int:=belowP c (plQ2 c) 2
def plA (c:List Int):List Part:=hpV c (plQ3 c) (plA0 c)
def plB (c:List Int):List Part:=hpV c (hpP c (plQ3 c) (plA0 c)) (plB1 c)
section
variable {c:List Int}
theorem plB1_1 (h:onceV c (plQ2 c) 2=true):plB1 c=fewV (plU c):=by unfold plB1; rw [if_pos h]
theorem plB1_0 (h:onceV c (plQ2 c) 2=false):plB1 c=plB0 c:=by unfold plB1; rw [if_neg (by rw [h]; decide)]
theorem pl_q1 (h:Rdr.ok c 0):Rdr.ok c (plQ1 c):=h.declP.pt
theorem pl_q2 (h:Rdr.ok c 0):Rdr.ok c (plQ2 c):=(pl_q1 h).pt
theorem pl_q3 (h:Rdr.ok c 0):Rdr.ok c (plQ3 c):=(pl_q2 h).below
theorem uniS_ok {a m:List Part} (ha:∀ x∈a,PtOk d x) (hm:∀ x∈m,PtOk d x):∀ j,j≤m.length→∀ x∈uniS (putF false []) a m j,PtOk d x
  | 0,_,x,hx=>ha x hx
  | j+1,hj,x,hx=>by
    have ih:=uniS_ok ha hm j (by omega)
    have hj':=hm _ (getD_mem (a:=m) (j:=j) (by omega))
    rcases putV_mem hx with hx | rfl | ⟨y,hy,_,rfl⟩
    · exact ih x hx
    · exact hj'
    · exact ⟨(ih y hy).1,join_sz (ih y hy).2 hj'.2⟩
theorem plA0_ok (h:Rdr.ok c 0):∀ x∈plA0 c,PtOk (declV c 0) x:=fun x hx=>((pt_small (u:=0) h.declP).2 x hx).1
theorem plB0_ok (h:Rdr.ok c 0):∀ x∈plB0 c,PtOk (declV c 0) x:=fun x hx=>((pt_small (u:=0) (pl_q1 h)).2 x hx).1
theorem plU_at (h:Rdr.ok c 0) {j:Nat} (hj:j≤(plB0 c).length):Uni (fun _=>True) (uniS (putF false []) (plA0 c) (plB0 c) j)∧(uniS (putF false []) (plA0 c) (plB0 c) j).length≤6:=by
  have ha:=ptV_rise (d:=declV c 0) h.declP
  have hb:=ptV_rise (d:=declV c 0) (pl_q1 h)
  have e:=uni_eq (Q:=fun _=>True) (F:=putF false []) (G:=putF false []) (l:=plA0 c) (m:=plB0 c) ha.1 hb.1 (fun _ _ _ _=>trivial) (fun _ _ _ _=>rfl) j hj
  have h2:=Uni.all (F:=putF false []) ha.1 hb.1 (fun _ _ _ _=>trivial) j hj
  have h3:=ha.2
  have h4:=hb.2
  rw [e]
  refine ⟨h2.1,Nat.le_trans h2.2 ?_⟩
  have h5:(ptV c (declP c 0) (declV c 0)).length≤3:=h3
  have h6:(plB0 c).length≤3:=h4
  omega
theorem pl_run (h:Rdr.ok c 0):UniRun false [] (plA0 c) (plB0 c):=fun j hj=>by
  obtain ⟨h1,h2⟩:=plU_at h (j:=j) (by omega)
  have h3:=uniS_ok (plA0_ok h) (plB0_ok h) j (by omega)
  have h4:=plB0_ok h _ (getD_mem hj)
  exact ⟨by omega,fun i hi=>⟨h1.rise.tok i hi,sz_pair decl_hd.1 decl_hd.2 (h3 _ (getD_mem hi)).2 h4.2⟩,h4.1⟩
theorem plU_ok (h:Rdr.ok c 0):(plU c).length≤6∧∀ x∈plU c,PtOk (declV c 0) x:=⟨(plU_at h (Nat.le_refl _)).2,uniS_ok (plA0_ok h) (plB0_ok h) _ (Nat.le_refl _)⟩
theorem plU_small (h:Rdr.ok c 0):∀ x∈plU c,Part.small x:=fun x hx=>ok_psmall decl_hd.1 decl_hd.2 ((plU_ok h).2 x hx)
theorem plB1_ok (h:Rdr.ok c 0):(plB1 c).length≤7∧∀ x∈plB1 c,PtOk (declV c 0) x:=by
  have h1:=plU_ok h
  unfold plB1
  split
  · rw [fewV_yes (by omega)]; exact ⟨by omega,h1.2⟩
  · exact ⟨Nat.le_trans (ptV_rise (pl_q1 h)).2 (by omega),plB0_ok h⟩
theorem pl_hb {l:List Part} (hl:l.length≤7) (h:∀ x∈l,PtOk (declV c 0) x):l.length≤1048576∧∀ x∈l,(x.table.length≤1048576∧∀ y∈x.table,y.ints.length≤1048576)∧1≤x.table.length :=
  ⟨by omega,fun x hx=>by
    have h1:=ok_psmall decl_hd.1 decl_hd.2 (h x hx)
    have h2:=leaves_bnd (d:=declV c 0) decl_hd.2
    have h3:=(h x hx).2.1
    exact ⟨⟨h1.2.1,fun y hy=>(h1.2.2 y hy).1⟩,by omega⟩⟩
theorem pl_full {l:List Part} (h:∀ x∈l,PtOk (declV c 0) x):∀ x∈l,PtOk (declV c 0) x∧Part.small x∧1≤x.table.length:=fun x hx=>by
  have h2:=leaves_bnd (d:=declV c 0) decl_hd.2
  have h3:=(h x hx).2.1
  exact ⟨h x hx,ok_psmall decl_hd.1 decl_hd.2 (h x hx),by omega⟩
theorem plA0_len (h:Rdr.ok c 0):(plA0 c).length≤7:=Nat.le_trans (ptV_rise h.declP).2 (by omega)
theorem pl_small (h:Rdr.ok c 0):SmallP (plA c)∧SmallP (plB c)∧(plA c).length+(plB c).length≤100:=by
  have h1:=hp_small (u:=0) (pl_q3 h) (v:=plQ3 c) (pl_q3 h) (plA0_len h) (pl_full (plA0_ok h))
  have h2:=hp_small (u:=0) (pl_q3 h) (v:=hpP c (plQ3 c) (plA0 c)) (pl_q3 h).hp (plB1_ok h).1 (pl_full (plB1_ok h).2)
  unfold plA plB
  exact ⟨⟨by omega,h1.2⟩,⟨by omega,h2.2⟩,by omega⟩
theorem hp_fit {v:Int} {l:List Part} (h:∀ x∈l,PtOk (declV c 0) x):∀ x∈hpV c v l,∀ e∈x.table,FitE e:=by
  have hf:∀ x∈l,∀ e∈x.table,FitE e:=fun x hx e he=>((h x hx).2.2 e he).2.2.2
  intro x hx
  unfold hpV at hx
  split at hx
  · simp only [List.mem_append,List.mem_singleton] at hx
    rcases hx with hx | rfl
    · exact hf x hx
    · intro e he; simp at he
  · split at hx
    · split at hx
      · rename_i hn
        rcases List.mem_or_eq_of_mem_set hx with hx | rfl
        · exact hf x hx
        · have h2:=h _ (getD_mem (a:=l) (j:=0) (by omega))
          have h5:=leaves_bnd (d:=declV c 0) decl_hd.2
          have h6:=h2.2.1
          have h3:=ht_sized (p:=belowP c v 24) h2.2.2 (by omega)
          exact fun e he=>(h3 e he).2.2
      · exact hf x hx
    · split at hx
      · split at hx
        · rename_i hn
          rcases List.mem_or_eq_of_mem_set hx with hx | rfl
          · exact hf x hx
          · exact hf (l.getD 0 default) (getD_mem (a:=l) (j:=0) (by omega))
        · exact hf x hx
      · exact hf x hx
theorem plB_fit (h:Rdr.ok c 0):∀ x∈plB c,∀ e∈x.table,FitE e:=hp_fit (plB1_ok h).2
end
end Go.Proofs

/- A symbolic executor over data by value, proved sound over any program: no conditions. -/
import Derived.Test.YthkdghnejfmhfaaGreatDoorE3
import Derived.Lib.Mul64
set_option linter.all false
set_option linter.unnecessarySimpa false
set_option linter.unusedSectionVars false
set_option linter.unusedSimpArgs false
set_option linter.unusedVariables false
namespace Go.Proofs
open Go Go.Ev
variable [Lay]
structure Iv where
  lo:Int
  hi:Int
deriving Inhabited,DecidableEq
structure Env where
  live:Bool
  ints:List Iv
  arrs:List Iv
deriving Inhabited
structure Arr where
  name:ByteArray
  size:Int
deriving Inhabited
structure Decl where
  vars:List ByteArray
  flags:List ByteArray
  arrays:List Arr
deriving Inhabited
def strEq (a b:ByteArray):Bool:=a.toList == b.toList
def Iv.same (a b:Iv):Bool:=a.lo == b.lo&&a.hi == b.hi
def Arr.same (a b:Arr):Bool:=strEq a.name b.name&&a.size == b.size
def Env.same (a b:Env):Bool:=a.live == b.live&&all2 Iv.same a.ints b.ints&&all2 Iv.same a.arrs b.arrs
def Decl.same (a b:Decl):Bool:=all2 strEq a.vars b.vars&&all2 strEq a.flags b.flags&&all2 Arr.same a.arrays b.arrays
def strW (x:ByteArray):Int:=x.size
def arrW (x:Arr):Int:=x.name.size
def szA (a:Arr) (left:Int):Int:=if left - a.name.size < 0 then -1 else left - a.name.size
theorem szA_neg {a:Arr} {v:Int}:szA a v < 0↔v - arrW a < 0:=by
  simp only [szA,arrW]; split<;>omega
def szDecl (a:Decl) (left:Int):Int :=
  if szL strW a.vars left < 0 then -1 else if szL strW a.flags (szL strW a.vars left) < 0 then -1 else
    if szL arrW a.arrays (szL strW a.flags (szL strW a.vars left)) < 0 then -1 else szL arrW a.arrays (szL strW a.flags (szL strW a.vars left))
def szIvs (a:List Iv) (left:Int):Int:=if left - a.length < 0 then -1 else left - a.length
theorem szIvs_le {a:List Iv} {l B:Int} (h:0≤B∧l≤B):szIvs a l≤B:=by
  simp only [szIvs]; split<;>omega
def szEnv (a:Env) (left:Int):Int:=if szIvs a.ints left < 0 then -1 else if szIvs a.arrs (szIvs a.ints left) < 0 then -1 else szIvs a.arrs (szIvs a.ints left)
def mIv (k:Int) (i:Nat) (_:Iv):Iv:=⟨k+2 * i,k+2 * i+1⟩
def Decl.marks (k:Int) (a:Decl):Int:=k+(a.vars.length:Int)+(a.flags.length:Int)+2 * (a.arrays.length:Int)
def Env.marks (k:Int) (a:Env):Int:=k+2 * (a.ints.length:Int)+2 * (a.arrs.length:Int)
def Env.mark (k:Int) (a:Env):Env:=⟨a.live,mkAll (mIv k) a.ints,mkAll (mIv (k+2 * (a.ints.length:Int))) a.arrs⟩
def inR (n lo hi:Int):Bool:=decide (n≥lo)&&decide (n≤hi)
def Iv.ok (a:Iv):Bool:=decide (a.lo≤a.hi)
def Iv.join (a b:Iv):Iv:=⟨min a.lo b.lo,max a.hi b.hi⟩
def keys:List ByteArray:=[⟨#[118,97,114]⟩,⟨#[102,108,97,103]⟩,⟨#[97,114,114,97,121]⟩,⟨#[105,102]⟩,⟨#[102,111,114,107]⟩,⟨#[101,108,115,101]⟩,⟨#[101,110,100]⟩,⟨#[119,104,105,108,101]⟩,⟨#[117,110,114,111,108,108]⟩,⟨#[97,115,115,101,114,116]⟩,⟨#[97,115,115,117,109,101]⟩,⟨#[105,110,112,117,116]⟩,⟨#[115,112,108,105,116]⟩,⟨#[109,101,114,103,101]⟩,⟨#[116,114,117,101]⟩,⟨#[102,97,108,115,101]⟩]
def isKey (s:ByteArray):Bool:=keys.any fun x=>strEq x s
def letters (s:ByteArray):Bool:=allTo s.size fun i=>decide (97≤byteAt s i∧byteAt s i≤122)
def nmOk (s:ByteArray):Bool:=letters s&&inR s.size 1 8&&!isKey s
def place (l:List ByteArray) (s:ByteArray):Int:=idx (fun x=>strEq x s) l
def Decl.names (d:Decl):List ByteArray:=d.vars++d.flags++d.arrays.map Arr.name
def nameOk (l:List ByteArray) (i:Nat):Bool:=nmOk (l.getD i default)&&!(l.take i).any fun x=>strEq x (l.getD i default)
theorem nameOk_of {l:List ByteArray} {i:Nat} (h:nmOk (l.getD i default)=true∧¬ place (l.take i) (l.getD i default)≥0):nameOk l i=true:=by
  have h2:=idx_any (fun x=>strEq x (l.getD i default)) (l.take i)
  simp only [nameOk,h.1,← h2,Bool.true_and]
  rw [show decide (idx (fun x=>strEq x (l.getD i default)) (l.take i)≥0)=false from decide_eq_false h.2]; rfl
def Decl.ok (d:Decl):Bool:=decide (d.vars.length≤5∧d.flags.length≤3∧d.arrays.length≤2)&&allTo d.arrays.length (fun i=>inR (d.arrays.getD i default).size 1 16)&&allTo (Decl.names d).length (nameOk (Decl.names d))
theorem Decl.ok_ne {d:Decl} (h:¬ (d.vars.length≤5∧d.flags.length≤3∧d.arrays.length≤2)):Decl.ok d=false:=by
  simp only [Decl.ok,decide_eq_false h,Bool.false_and]
theorem Decl.ok_size {d:Decl} {j:Nat} (hj:j < d.arrays.length) (h:inR (d.arrays.getD j default).size 1 16=false):Decl.ok d=false:=by
  simp only [Decl.ok,allTo_fail (f:=fun i=>inR (d.arrays.getD i default).size 1 16) hj h,Bool.and_false,Bool.false_and]
theorem Decl.ok_name {d:Decl} {j:Nat} (hj:j < (Decl.names d).length) (h:nmOk ((Decl.names d).getD j default)=false∨place ((Decl.names d).take j) ((Decl.names d).getD j default)≥0):Decl.ok d=false:=by
  have:nameOk (Decl.names d) j=false:=by
    have h2:=idx_any (fun x=>strEq x ((Decl.names d).getD j default)) ((Decl.names d).take j)
    rcases h with h | h
    · simp only [nameOk,h,Bool.false_and]
    · simp only [nameOk,← h2]; rw [show decide (idx (fun x=>strEq x ((Decl.names d).getD j default)) ((Decl.names d).take j)≥0)=true from decide_eq_true h]; simp
  simp only [Decl.ok,allTo_fail hj this,Bool.and_false]
theorem Decl.ok_done {d:Decl} (h:d.vars.length≤5∧d.flags.length≤3∧d.arrays.length≤2) {k j:Nat} (h2:allTo k (fun i=>inR (d.arrays.getD i default).size 1 16)=true) (hk:d.arrays.length≤k) (hj:(Decl.names d).length≤j) (h3:allTo j (nameOk (Decl.names d))=true):Decl.ok d=true:=by
  simp only [Decl.ok,decide_eq_true h,allTo_le hk h2,allTo_le hj h3,Bool.and_true]
def Env.okIn (d:Decl) (e:Env):Bool:=if e.live then ((e.ints.length:Int) == d.vars.length&&(e.arrs.length:Int) == d.arrays.length)&&(e.ints++e.arrs).all Iv.ok else ((e.ints.length:Int) == 0&&(e.arrs.length:Int) == 0)
theorem okIn_one {d:Decl} {a:Env} (h:Env.okIn d a=true) (hl:a.live=true):a.ints.length=d.vars.length∧a.arrs.length=d.arrays.length:=by
  simp only [Env.okIn,hl,if_true,Bool.and_eq_true,beq_iff_eq] at h; omega
def lens (l:List (List ByteArray)):Nat:=(l.map List.length).sum
theorem flatten_lens (l:List (List ByteArray)):l.flatten.length=lens l:=by simp [lens,List.length_flatten]
theorem lens_take (l:List (List ByteArray)) (j:Nat):lens (l.take (j+1))=lens (l.take j)+(l.getD j default).length:=by
  unfold lens
  rw [List.take_add_one]
  cases h:l[j]?<;>simp [List.getD_eq_getElem?_getD,h]
  rfl
theorem lens_le (l:List (List ByteArray)) (j:Nat):lens (l.take j)≤lens l:=by
  have:lens l=lens (l.take j)+lens (l.drop j):=by
    unfold lens; rw [← List.sum_append,← List.map_append,List.take_append_drop]
  omega
theorem take_flatten (l:List (List ByteArray)) (j:Nat):(l.take j).flatten++l.getD j default=(l.take (j+1)).flatten:=by
  rw [List.take_add_one]
  cases h:l[j]?<;>simp [List.getD_eq_getElem?_getD,h]
  rfl
theorem strEq_comm (a b:ByteArray):strEq a b=strEq b a:=by
  unfold strEq; rw [Bool.eq_iff_iff]; simp only [beq_iff_eq]; exact eq_comm
theorem isKey_eq (s:ByteArray):(keys.any fun x=>strEq s x)=isKey s:=by
  unfold isKey; congr 1; funext x; exact strEq_comm _ _
theorem any_comm (l:List ByteArray) (s:ByteArray):(l.any fun x=>strEq s x)=l.any fun x=>strEq x s:=by
  congr 1; funext x; exact strEq_comm _ _
theorem nameOk_of2 {l:List ByteArray} {i:Nat} (h:nmOk (l.getD i default)=true∧((l.take i).any fun x=>strEq (l.getD i default) x)=false):nameOk l i=true:=by
  simp only [nameOk,h.1,← any_comm,h.2]; rfl
theorem Decl.ok_name2 {d:Decl} {j:Nat} (hj:j < (Decl.names d).length) (h:nmOk ((Decl.names d).getD j default)=false∨(((Decl.names d).take j).any fun x=>strEq ((Decl.names d).getD j default) x)=true):Decl.ok d=false:=by
  have:nameOk (Decl.names d) j=false:=by
    rcases h with h | h
    · simp only [nameOk,h,Bool.false_and]
    · simp only [nameOk,← any_comm,h]; simp
  simp only [Decl.ok,allTo_fail hj this,Bool.and_false]
theorem Decl.ok_right {d:Decl} {j:Nat} (hj:(Decl.names d).length≤j) (h:allTo j (nameOk (Decl.names d))=true) :
    (decide ((d.vars.length:Int)≤5)&&decide ((d.flags.length:Int)≤3)&&decide ((d.arrays.length:Int)≤2)&&d.arrays.all fun x=>inR x.size 1 16)=Decl.ok d:=by
  simp only [Decl.ok,allTo_le hj h,Bool.and_true]
  congr 1
  · rw [Bool.eq_iff_iff]; simp only [Bool.and_eq_true,decide_eq_true_eq]; omega
  · rw [all_allTo]
theorem szIvs_len {a:List Iv} {l:Int} (h:¬ szIvs a l < 0):(a.length:Int)≤l∧szIvs a l≤l:=by
  simp only [szIvs] at h ⊢; split at h<;>rename_i h1
  · omega
  · rw [if_neg h1]; omega
theorem szEnv_len {a:Env} {l:Int} (hl:0≤l∧l≤1048576) (h:¬ szEnv a l < 0):a.ints.length≤1048576∧a.arrs.length≤1048576∧szEnv a l≤l:=by
  simp only [szEnv] at h ⊢
  split at h<;>rename_i h1
  · omega
  · have h2:=szIvs_len h1
    rw [if_neg h1]
    split at h<;>rename_i h3
    · omega
    · have h4:=szIvs_len h3
      rw [if_neg h3]; omega
theorem szDecl_len {a:Decl} {l:Int} (hv:∀ x∈a.vars,0≤strW x∧strW x≤9223372036854775807) (hf:∀ x∈a.flags,0≤strW x∧strW x≤9223372036854775807) (ha:∀ x∈a.arrays,0≤arrW x∧arrW x≤9223372036854775807) (hl:0≤l∧l≤1048576) (h:¬ szDecl a l < 0) :
    a.vars.length≤1048576∧a.flags.length≤1048576∧a.arrays.length≤1048576∧szDecl a l≤l:=by
  simp only [szDecl] at h ⊢
  split at h<;>rename_i h1
  · omega
  · have h2:=szL_len hv h1
    rw [if_neg h1]
    split at h<;>rename_i h3
    · omega
    · have h4:=szL_len hf h3
      rw [if_neg h3]
      split at h<;>rename_i h5
      · omega
      · have h6:=szL_len ha h5
        rw [if_neg h5]; omega
theorem all2_self {α:Type} [Inhabited α] {p:α→α→Bool} (h:∀ x,p x x=true) (a:List α):all2 p a a=true :=
  all2_done p rfl (allTo_iff.2 fun i _=>h _)
theorem strEq_self (a:ByteArray):strEq a a=true:=by simp [strEq]
theorem Iv.same_self (a:Iv):Iv.same a a=true:=by simp [Iv.same]
theorem Arr.same_self (a:Arr):Arr.same a a=true:=by simp [Arr.same,strEq_self]
theorem Env.same_self (a:Env):Env.same a a=true:=by simp [Env.same,all2_self Iv.same_self]
theorem Decl.same_self (a:Decl):Decl.same a a=true:=by simp [Decl.same,all2_self strEq_self,all2_self Arr.same_self]

theorem strs_good {l:List ByteArray} (h:∀ x∈l,x.size≤maxLen):∀ x∈l,0≤strW x∧strW x≤9223372036854775807:=fun x hx=>by
  have:=h x hx; simp only [strW,maxLen] at *; omega
theorem arrs_good {l:List Arr} {q:Arr→Prop} (h:∀ x∈l,x.name.size≤maxLen∧q x):∀ x∈l,0≤arrW x∧arrW x≤9223372036854775807:=fun x hx=>by
  have:=(h x hx).1; simp only [arrW,maxLen] at *; omega
theorem names_good {d:Decl} {q:Arr→Prop} (h1:∀ x∈d.vars,x.size≤maxLen) (h2:∀ x∈d.flags,x.size≤maxLen) (h3:∀ x∈d.arrays,x.name.size≤maxLen∧q x):∀ x∈Decl.names d,x.size≤9223372036854775807:=fun x hx=>by
  simp only [Decl.names,List.mem_append,List.mem_map] at hx
  rcases hx with (hx | hx) | ⟨y,hy,rfl⟩
  · have:=h1 x hx; simp only [maxLen] at this; omega
  · have:=h2 x hx; simp only [maxLen] at this; omega
  · have:=(h3 y hy).1; simp only [maxLen] at this; omega

def Iv.meet (a b:Iv):Iv:=⟨max a.lo b.lo,min a.hi b.hi⟩
def Iv.meets (a b:Iv):Bool:=Iv.ok a&&Iv.ok b&&Iv.ok (Iv.meet a b)
def Iv.meetOk (a b:Iv):Iv:=if Iv.meets a b=true then Iv.meet a b else ⟨0,0⟩
theorem Iv.meets_no {a b:Iv} (h:(Iv.ok a=false∨Iv.ok b=false)∨Iv.ok (Iv.meet a b)=false):Iv.meets a b=false:=by
  unfold Iv.meets; rcases h with (h | h) | h<;>simp [h]
theorem Iv.meets_yes {a b:Iv} (h:(Iv.ok a=true∧Iv.ok b=true)∧Iv.ok (Iv.meet a b)=true):Iv.meets a b=true:=by
  unfold Iv.meets; simp [h.1.1,h.1.2,h.2]
def Iv.leq (a b:Iv):Bool:=Iv.ok a&&Iv.ok b&&decide (b.lo≤a.lo)&&decide (a.hi≤b.hi)
def allOf (sz:Int):Iv:=⟨0,IntKind.wrap .i64 (sz - 1)⟩
def alarmOf (p:Iv) (sz:Int):Int:=if Iv.leq p (allOf sz)=true then 0 else 2
def Env.put (d:Decl) (e:Env) (v:Int) (p a:Iv):Env :=
  if Iv.meets p (allOf (d.arrays.getD v.toNat default).size)=true then ⟨e.live,e.ints,e.arrs.set v.toNat (if (d.arrays.getD v.toNat default).size=1 then a else Iv.join (e.arrs.getD v.toNat default) a)⟩ else ⟨false,[],[]⟩
theorem alarm_yes {p:Iv} {s:Int} (h:Iv.leq p (allOf s)=true):0=alarmOf p s:=(if_pos h).symm
theorem alarm_no {p:Iv} {s:Int} (h:Iv.leq p (allOf s)=false):2=alarmOf p s:=(if_neg (by rw [h]; decide)).symm
def intEq (a b:Int):Bool:=a == b
theorem intEq_self (a:Int):intEq a a=true:=by simp [intEq]
def leavesOf (d:Decl):Int:=IntKind.wrap .i64 (1 * 2 ^ (min ((d.flags.length:Int)).toNat (IntKind.bits .i64)))
end Go.Proofs

namespace Go.Proofs
open Go Go.Ev
variable [Lay]

def Env.wt (e:Env):Int:=1+2 * (e.ints.length:Int)+2 * (e.arrs.length:Int)
def Env.markT (k:Int) (e:Env):Env:=⟨Int.tmod k 3 == 0,mkAll (mIv (k+1)) e.ints,mkAll (mIv (k+1+2 * (e.ints.length:Int))) e.arrs⟩
def EnvS.at (k:Int) (a:List Env) (i:Nat):Int:=k+((a.take i).map Env.wt).sum
def EnvS.mk (k:Int) (a:List Env) (i:Nat) (e:Env):Env:=Env.markT (EnvS.at k a i) e
def szPl {α:Type} (a:List α) (left:Int):Int:=if left - a.length < 0 then -1 else left - a.length
theorem szPl_len {α:Type} {a:List α} {l:Int} (h:¬ szPl a l < 0):(a.length:Int)≤l∧szPl a l≤l:=by
  unfold szPl at h ⊢; split at h<;>(split<;>omega)
structure Store where
  ints:List Int
  flags:List Bool
  arrs:List (List Int)
deriving Inhabited
def Store.okIn (d:Decl) (s:Store):Bool:=decide (s.ints.length=d.vars.length∧s.flags.length=d.flags.length∧s.arrs.length=d.arrays.length)&&allTo d.arrays.length fun i=>((s.arrs.getD i default).length:Int) == (d.arrays.getD i default).size
def Store.ok (d:Decl) (s:Store):Bool:=Decl.ok d&&Store.okIn d s
def Iv.has (a:Iv) (n:Int):Bool:=inR n a.lo a.hi
def Fits (e:Env) (s:Store):Prop:=e.live=true→e.ints.length=s.ints.length∧e.arrs.length=s.arrs.length
def truthN (b:Bool):Int:=if b then 1 else 0
end Go.Proofs

namespace Go.Proofs
open Go Go.Ev
variable [Lay]
structure Tok where
  op:Int
  n:Int
deriving Inhabited
def Tok.same (a b:Tok):Bool:=a.op == b.op&&a.n == b.n
theorem Tok.same_self (a:Tok):Tok.same a a=true:=by simp [Tok.same]
def takesN (op:Int):Int:=if op≤5 then 0 else if op≤7∨op=19 then 1 else 2
def kdT (op:Int):Int:=if op=3∨op=4∨op=5 then 0 else if op≤12 then 1 else if op≤18 then 1 else 2
def kdL (op:Int):Int:=if op=3∨op=4∨op=5 then 2 else if op≤12 then 1 else if op≤18 then 2 else 2
def takesL (op:Int):List Int:=if op=6∨op=7 then [1] else if inR op 8 18=true then [1,1] else if op=19 then [2] else if op=20∨op=21 then [2,2] else []
def leavesK (op:Int):Int:=if inR op 3 5=true∨op≥13 then 2 else 1
def Tok.ok (d:Decl) (t:Tok):Bool :=
  if t.op=1 then inR t.n 0 999999999999999999 else if t.op=2 then inR t.n 0 (d.vars.length - 1) else if t.op=3 then inR t.n 0 (d.flags.length - 1) else if t.op=6 then inR t.n 0 (d.arrays.length - 1) else inR t.op 4 21&&(t.n == 0)
theorem inR_iff {n lo hi:Int}:inR n lo hi=true↔lo≤n∧n≤hi:=by
  unfold inR; simp only [Bool.and_eq_true,decide_eq_true_eq,ge_iff_le]
theorem Tok.ok_op {d:Decl} {t:Tok} (h:Tok.ok d t=true):1≤t.op∧t.op≤21:=by
  unfold Tok.ok at h
  repeat' split at h
  all_goals first | omega | (rw [Bool.and_eq_true,inR_iff] at h; omega)
theorem takesL_len (op:Int):(takesL op).length≤2:=by
  unfold takesL; repeat' split
  all_goals simp
theorem takes_same {op:Int} (h:1≤op∧op≤21):((takesL op).length:Int)=takesN op∧(∀ x∈takesL op,x=kdT op)∧leavesK op=kdL op:=by
  have h0:op=1∨op=2∨op=3∨op=4∨op=5∨op=6∨op=7∨op=8∨op=9∨op=10∨op=11∨op=12∨op=13∨op=14∨op=15∨op=16∨op=17∨op=18∨op=19∨op=20∨op=21:=by omega
  rcases h0 with rfl | rfl | rfl | rfl | rfl | rfl | rfl | rfl | rfl | rfl | rfl | rfl | rfl | rfl | rfl | rfl | rfl | rfl | rfl | rfl | rfl<;>decide
def kst (p:List Int) (t:Tok):Option (List Int):=if (takesL t.op).length≤p.length∧p.drop (p.length - (takesL t.op).length)=takesL t.op then some (p.take (p.length - (takesL t.op).length)++[leavesK t.op]) else none
def kdS (d:Decl) (l:List Tok):Nat→Option (List Int)
  | 0=>some []
  | j+1=>(kdS d l j).bind fun p=>if Tok.ok d (l.getD j default)=true then kst p (l.getD j default) else none
def kdV (d:Decl) (l:List Tok):Int:=match kdS d l l.length with
  | some [k]=>k
  | _=>0
def Expr.kind (d:Decl) (l:List Tok):Int:=if l.length≤40 then kdV d l else 0
def Expr.kindIn (d:Decl) (l:List Tok):Int:=if Decl.ok d=true then Expr.kind d l else 0
section
variable {d:Decl} {l:List Tok} {j:Nat} {p:List Int}
theorem kdS_none (h:kdS d l j=none):∀ n,kdS d l (j+n)=none
  | 0=>h
  | n+1=>by rw [← Nat.add_assoc,kdS,kdS_none h n]; rfl
theorem kind_none (hj:j≤l.length) (h:kdS d l j=none):Expr.kind d l=0:=by
  have h1:=kdS_none h (l.length - j)
  rw [show j+(l.length - j)=l.length by omega] at h1
  unfold Expr.kind kdV; rw [h1]; simp
theorem kind_long (h:¬ l.length≤40):Expr.kind d l=0:=by unfold Expr.kind; rw [if_neg h]
theorem kind_one (h:l.length≤40) (hj:j=l.length) (hp:kdS d l j=some p) (h1:p.length=1):Expr.kind d l=p.getD 0 default:=by
  subst hj
  unfold Expr.kind kdV; rw [if_pos h,hp]
  match p,h1 with
  | [k],_=>rfl
theorem kind_many (hj:j=l.length) (hp:kdS d l j=some p) (h1:¬ p.length=1):Expr.kind d l=0:=by
  subst hj
  unfold Expr.kind kdV; rw [hp]
  match p,h1 with
  | [],_=>simp
  | [k],h1=>exact absurd rfl h1
  | _::_::_,_=>simp
theorem kdS_len (hp:kdS d l j=some p):p.length≤j:=by
  induction j generalizing p with
  | zero=>simp only [kdS,Option.some.injEq] at hp; subst hp; simp
  | succ j ih =>
    rw [kdS] at hp
    cases h:kdS d l j with
    | none=>rw [h] at hp; cases hp
    | some q =>
      rw [h] at hp
      have h1:=ih h
      simp only [Option.bind_some] at hp
      split at hp
      · unfold kst at hp
        split at hp
        · simp only [Option.some.injEq] at hp
          subst hp
          simp only [List.length_append,List.length_take,List.length_singleton]; omega
        · cases hp
      · cases hp
theorem kdS_bad (hp:kdS d l j=some p) (h:Tok.ok d (l.getD j default)=false):kdS d l (j+1)=none:=by
  rw [kdS,hp,Option.bind_some,if_neg (by rw [h]; decide)]
theorem kdS_go (hp:kdS d l j=some p) (h:Tok.ok d (l.getD j default)=true):kdS d l (j+1)=kst p (l.getD j default):=by
  rw [kdS,hp,Option.bind_some,if_pos h]
theorem kst_some {t:Tok} (h1:(takesL t.op).length≤p.length) (h2:p.drop (p.length - (takesL t.op).length)=takesL t.op):kst p t=some (p.take (p.length - (takesL t.op).length)++[leavesK t.op]):=by unfold kst; rw [if_pos ⟨h1,h2⟩]
theorem kst_few {t:Tok} (h1:¬ (takesL t.op).length≤p.length):kst p t=none:=by unfold kst; rw [if_neg (fun h=>h1 h.1)]
theorem kst_ne {t:Tok} (h2:¬ p.drop (p.length - (takesL t.op).length)=takesL t.op):kst p t=none:=by unfold kst; rw [if_neg (fun h=>h2 h.2)]
theorem kst_each {t:Tok} (ht:1≤t.op∧t.op≤21) (h1:¬ (p.length:Int) < takesN t.op) (h2:∀ i:Nat,(p.length:Int) - takesN t.op≤(i:Int)→i < p.length→p.getD i default=kdT t.op):kst p t=some (p.take (p.length - (takesL t.op).length)++[kdL t.op]):=by
  obtain ⟨a1,a2,a3⟩:=takes_same ht
  rw [← a3]
  refine kst_some (by omega) ?_
  refine List.ext_getElem (by rw [List.length_drop]; omega) fun i hi hi'=>?_
  rw [List.length_drop] at hi
  rw [List.getElem_drop]
  have h3:=h2 (p.length - (takesL t.op).length+i) (by omega) (by omega)
  rw [List.getD_eq_getElem?_getD,List.getElem?_eq_getElem (by omega)] at h3
  exact (show p[p.length - (takesL t.op).length+i]=kdT t.op from h3).trans (a2 _ (List.getElem_mem hi')).symm
theorem kst_wrong {t:Tok} {i:Nat} (ht:1≤t.op∧t.op≤21) (h1:¬ (p.length:Int) < takesN t.op) (hi:(p.length:Int) - takesN t.op≤(i:Int)) (hi2:i < p.length) (h2:¬ p.getD i default=kdT t.op):kst p t=none:=by
  obtain ⟨a1,a2,a3⟩:=takes_same ht
  refine kst_ne fun h=>h2 ?_
  have h4:i=p.length - (takesL t.op).length+(i - (p.length - (takesL t.op).length)):=by omega
  have h5:p[i]?=(takesL t.op)[i - (p.length - (takesL t.op).length)]?:=by
    conv=>lhs; rw [h4]
    rw [← List.getElem?_drop,h]
  rw [List.getD_eq_getElem?_getD,h5,List.getElem?_eq_getElem (by omega)]
  exact a2 _ (List.getElem_mem _)
theorem kst_less {t:Tok} (ht:1≤t.op∧t.op≤21) (h1:(p.length:Int) < takesN t.op):kst p t=none:=by
  have a1:=(takes_same ht).1
  exact kst_few (by omega)
end
theorem intEq_all {a b:List Int} (h:all2 intEq a b=true):a=b:=by
  unfold all2 at h
  simp only [Bool.and_eq_true,beq_iff_eq] at h
  refine List.ext_getElem h.1 fun i hi hi'=>?_
  have h3:=allTo_iff.1 h.2 i hi
  unfold intEq at h3
  rw [beq_iff_eq,List.getD_eq_getElem?_getD,List.getD_eq_getElem?_getD,List.getElem?_eq_getElem hi,List.getElem?_eq_getElem hi'] at h3
  exact h3
theorem takesN_bnd (op:Int):0≤takesN op∧takesN op≤2:=by
  unfold takesN; repeat' split
  all_goals omega
section
variable {d:Decl} {l:List Tok} {j u:Nat} {p:List Int}
theorem kd_each (hp:kdS d l j=some p) (h:Tok.ok d (l.getD j default)=true∧¬ (p.length:Int) < takesN (l.getD j default).op)
    (hu:∀ i:Nat,(p.length:Int) - takesN (l.getD j default).op≤(i:Int)→(i:Int) < (p.length:Int) - takesN (l.getD j default).op+(u:Int)→p.getD i default=kdT (l.getD j default).op) (h2:¬ (p.length:Int) - takesN (l.getD j default).op+(u:Int) < (p.length:Int)) :
    kdS d l (j+1)=some (p.take ((p.length:Int) - takesN (l.getD j default).op).toNat++[kdL (l.getD j default).op]):=by
  have ho:=Tok.ok_op h.1
  rw [kdS_go hp h.1,kst_each ho h.2 fun i h3 h4=>hu i h3 (by omega)]
  have a1:=(takes_same ho).1
  rw [show ((p.length:Int) - takesN (l.getD j default).op).toNat=p.length - (takesL (l.getD j default).op).length by omega]
theorem kd_next {a n x:Int} (h:∀ i:Nat,a - n≤(i:Int)→(i:Int) < a - n+(u:Int)→p.getD i default=x) (h1:p.getD (a - n+(u:Int)).toNat default=x):∀ i:Nat,a - n≤(i:Int)→(i:Int) < a - n+((u+1:Nat):Int)→p.getD i default=x:=fun i h2 h3=>by
  by_cases e:(i:Int) < a - n+(u:Int)
  · exact h i h2 e
  · rw [show i=(a - n+(u:Int)).toNat by omega]; exact h1
theorem kd_goI (hp:kdS d l j=some p) (h:Tok.ok d (l.getD j default)=true) (h1:¬ ((p.length:Int) - ((takesL (l.getD j default).op).length:Int) < 0)∧all2 intEq (p.drop ((p.length:Int) - ((takesL (l.getD j default).op).length:Int)).toNat) (takesL (l.getD j default).op)=true) :
    kdS d l (j+1)=some (p.take ((p.length:Int) - ((takesL (l.getD j default).op).length:Int)).toNat++[leavesK (l.getD j default).op]):=by
  have e:((p.length:Int) - ((takesL (l.getD j default).op).length:Int)).toNat=p.length - (takesL (l.getD j default).op).length:=by omega
  rw [e] at h1 ⊢
  rw [kdS_go hp h]
  exact kst_some (by omega) (intEq_all h1.2)
theorem kd_noI (hp:kdS d l j=some p) (h:Tok.ok d (l.getD j default)=true) (h1:(p.length:Int) - ((takesL (l.getD j default).op).length:Int) < 0∨all2 intEq (p.drop ((p.length:Int) - ((takesL (l.getD j default).op).length:Int)).toNat) (takesL (l.getD j default).op)=false):kdS d l (j+1)=none:=by
  rw [kdS_go hp h]
  rcases h1 with h1 | h1
  · exact kst_few (by omega)
  · by_cases h0:(takesL (l.getD j default).op).length≤p.length
    · have e:((p.length:Int) - ((takesL (l.getD j default).op).length:Int)).toNat=p.length - (takesL (l.getD j default).op).length:=by omega
      rw [e] at h1
      refine kst_ne fun h2=>?_
      rw [h2,all2_self intEq_self] at h1; cases h1
    · exact kst_few h0
end
theorem kind_bad {d:Decl} {l:List Tok} (h:l.all (Tok.ok d)=false):Expr.kind d l=0:=by
  have h1:∃ i,i < l.length∧Tok.ok d (l.getD i default)=false:=by
    rw [List.all_eq_false] at h
    obtain ⟨x,hx,hb⟩:=h
    obtain ⟨i,hi,rfl⟩:=List.getElem_of_mem hx
    exact ⟨i,hi,by rw [List.getD_eq_getElem?_getD,List.getElem?_eq_getElem hi]; simpa using hb⟩
  obtain ⟨i,hi,hb⟩:=h1
  cases h2:kdS d l i with
  | none=>exact kind_none (by omega) h2
  | some p=>exact kind_none (by omega) (kdS_bad h2 hb)
end Go.Proofs

namespace Go.Proofs
open Go Go.Ev
variable [Lay]
def Rdr.ok (b:List Int) (p:Int):Prop:=0≤p∧p≤b.length∧b.length≤1048576∧∀ x∈b,0≤x∧x≤255
def nextV (b:List Int) (p:Int):Int:=if p≥b.length then 0 else b.getD p.toNat default
def nextP (b:List Int) (p:Int):Int:=if p≥b.length then p else p+1
variable {b:List Int} {p:Int}
theorem Rdr.ok.next (h:Rdr.ok b p):Rdr.ok b (nextP b p):=by
  obtain ⟨h1,h2,h3,h4⟩:=h
  unfold nextP
  split
  · exact ⟨h1,h2,h3,h4⟩
  · exact ⟨by omega,by omega,h3,h4⟩
def belowV (b:List Int) (p n:Int):Int:=if n≤1 then 0 else if n≤256 then Int.tmod (nextV b p) n else Int.tmod (nextV b p * 256+nextV b (nextP b p)) n
def belowP (b:List Int) (p n:Int):Int:=if n≤1 then p else if n≤256 then nextP b p else nextP b (nextP b p)
theorem Rdr.ok.below {n:Int} (h:Rdr.ok b p):Rdr.ok b (belowP b p n):=by
  unfold belowP; split
  · exact h
  · split
    · exact h.next
    · exact h.next.next
def Fit (x:Int):Prop:=-9223372036854775808≤x∧x≤9223372036854775807
theorem fit_wrap (x:Int):Fit (IntKind.wrap .i64 x):=by
  unfold Fit
  simp only [IntKind.wrap,IntKind.bits,IntKind.signed]
  simp
  split<;>omega
theorem wrap_u64_nn (x:Int):0≤IntKind.wrap .u64 x:=by
  simp only [IntKind.wrap,IntKind.bits,IntKind.signed]
  simp
  omega
def addV (a c:Int):Int:=if (c > 0∧a > IntKind.wrap .i64 (9223372036854775807 - c))∨(c < 0∧a < IntKind.wrap .i64 (-9223372036854775808 - c)) then 0 else IntKind.wrap .i64 (a+c)
def addO (a c:Int):Int:=if c > 0∧a > IntKind.wrap .i64 (9223372036854775807 - c) then 1 else if c < 0∧a < IntKind.wrap .i64 (-9223372036854775808 - c) then -1 else 0
theorem add_1 {a c:Int} (h:c > 0∧a > IntKind.wrap .i64 (9223372036854775807 - c)):addV a c=0∧addO a c=1:=by
  unfold addV addO; rw [if_pos (.inl h),if_pos h]; exact ⟨rfl,rfl⟩
theorem add_2 {a c:Int} (h0:¬ c > 0∨¬ a > IntKind.wrap .i64 (9223372036854775807 - c)) (h:c < 0∧a < IntKind.wrap .i64 (-9223372036854775808 - c)):addV a c=0∧addO a c=-1:=by
  unfold addV addO; rw [if_pos (.inr h),if_neg (fun h9=>h0.elim (fun h8=>h8 h9.1) fun h8=>h8 h9.2),if_pos h]; exact ⟨rfl,rfl⟩
theorem add_3 {a c:Int} (h0:¬ c > 0∨¬ a > IntKind.wrap .i64 (9223372036854775807 - c)) (h:¬ c < 0∨¬ a < IntKind.wrap .i64 (-9223372036854775808 - c)):addV a c=IntKind.wrap .i64 (a+c)∧addO a c=0:=by
  have h1:¬ (c > 0∧a > IntKind.wrap .i64 (9223372036854775807 - c)):=fun h9=>h0.elim (fun h8=>h8 h9.1) fun h8=>h8 h9.2
  have h2:¬ (c < 0∧a < IntKind.wrap .i64 (-9223372036854775808 - c)):=fun h9=>h.elim (fun h8=>h8 h9.1) fun h8=>h8 h9.2
  unfold addV addO; rw [if_neg (fun h9=>h9.elim h1 h2),if_neg h1,if_neg h2]; exact ⟨rfl,rfl⟩
def FitI (a:Iv):Prop:=Fit a.lo∧Fit a.hi
def FitE (e:Env):Prop:=(∀ x∈e.ints,FitI x)∧∀ x∈e.arrs,FitI x
def hurtP (b:List Int) (p:Int):Int:=belowP b p 24
theorem Rdr.ok.hurt (h:Rdr.ok b p):Rdr.ok b (hurtP b p):=h.below
theorem wrap_u64_eq (z:Int):IntKind.wrap .u64 z=z % 18446744073709551616:=by
  simp only [IntKind.wrap,IntKind.bits,IntKind.signed]; simp
theorem wrap_i64_eq (z:Int):IntKind.wrap .i64 z=if z % 18446744073709551616 < 9223372036854775808 then z % 18446744073709551616 else z % 18446744073709551616 - 18446744073709551616:=by
  simp only [IntKind.wrap,IntKind.bits,IntKind.signed]
  simp
  split<;>split<;>omega
section
variable {a:Iv} {c:List Int} {i:Int}
end
def htP (b:List Int) (p:Int):Int:=if belowV b p 24=1 then hurtP b (belowP b p 24) else belowP b p 24
theorem Rdr.ok.ht (h:Rdr.ok b p):Rdr.ok b (htP b p):=by
  unfold htP; split
  · exact h.below.hurt
  · exact h.below
end Go.Proofs

namespace Go.Proofs
open Go Go.Ev
variable [Lay]
def fitN (x:Int):Int:=if -9223372036854775808≤x∧x≤9223372036854775807 then x else 0
def fitO (x:Int):Int:=if x > 9223372036854775807 then 1 else if x < -9223372036854775808 then -1 else 0
def fitC (x:Int):Int:=if -9223372036854775808≤x∧x≤9223372036854775807 then 0 else 6
theorem fitN_fit (x:Int):Fit (fitN x):=by unfold fitN Fit; split<;>omega
theorem fit_in {x:Int} (h:Fit x):fitN x=x∧fitO x=0∧fitC x=0:=by
  unfold Fit at h; unfold fitN fitO fitC
  rw [if_pos h,if_neg (by omega),if_neg (by omega),if_pos h]; exact ⟨rfl,rfl,rfl⟩
theorem fit_big {x:Int} (h:x > 9223372036854775807):fitN x=0∧fitO x=1∧fitC x=6:=by
  unfold fitN fitO fitC
  rw [if_neg (by omega),if_pos h,if_neg (by omega)]; exact ⟨rfl,rfl,rfl⟩
theorem fit_low {x:Int} (h:x < -9223372036854775808):fitN x=0∧fitO x=-1∧fitC x=6:=by
  unfold fitN fitO fitC
  rw [if_neg (by omega),if_neg (by omega),if_pos h,if_neg (by omega)]; exact ⟨rfl,rfl,rfl⟩
theorem addV_fit {a c:Int} (ha:Fit a) (hc:Fit c):addV a c=fitN (a+c)∧addO a c=fitO (a+c):=by
  unfold Fit at ha hc
  by_cases h1:c > 0∧a > IntKind.wrap .i64 (9223372036854775807 - c)
  · have h2:=add_1 h1
    rw [wrap_le (by omega) (by omega)] at h1
    have h3:=fit_big (x:=a+c) (by omega)
    rw [h2.1,h2.2,h3.1,h3.2.1]; exact ⟨rfl,rfl⟩
  · by_cases h4:c < 0∧a < IntKind.wrap .i64 (-9223372036854775808 - c)
    · have h2:=add_2 (by omega) h4
      rw [wrap_le (by omega) (by omega)] at h4
      have h3:=fit_low (x:=a+c) (by omega)
      rw [h2.1,h2.2,h3.1,h3.2.1]; exact ⟨rfl,rfl⟩
    · have h2:=add_3 (a:=a) (c:=c) (by omega) (by omega)
      have h5:Fit (a+c):=by
        unfold Fit
        by_cases h6:c > 0
        · rw [wrap_le (by omega) (by omega)] at h1; omega
        · by_cases h7:c < 0
          · rw [wrap_le (by omega) (by omega)] at h4; omega
          · omega
      have h3:=fit_in h5
      rw [h2.1,h2.2,h3.1,h3.2.1]
      unfold Fit at h5
      exact ⟨wrap_le h5.1 h5.2,rfl⟩
section
variable {a c:Int}
theorem sub_1 (ha:Fit a) (hc:Fit c) (h:c < 0∧a > IntKind.wrap .i64 (9223372036854775807+c)):fitN (a - c)=0∧fitO (a - c)=1:=by
  unfold Fit at ha hc
  rw [wrap_le (by omega) (by omega)] at h
  have h3:=fit_big (x:=a - c) (by omega)
  exact ⟨h3.1,h3.2.1⟩
theorem sub_2 (ha:Fit a) (hc:Fit c) (h:c > 0∧a < IntKind.wrap .i64 (-9223372036854775808+c)):fitN (a - c)=0∧fitO (a - c)=-1:=by
  unfold Fit at ha hc
  rw [wrap_le (by omega) (by omega)] at h
  have h3:=fit_low (x:=a - c) (by omega)
  exact ⟨h3.1,h3.2.1⟩
theorem sub_3 (ha:Fit a) (hc:Fit c) (h1:¬ c < 0∨¬ a > IntKind.wrap .i64 (9223372036854775807+c)) (h2:¬ c > 0∨¬ a < IntKind.wrap .i64 (-9223372036854775808+c)):fitN (a - c)=IntKind.wrap .i64 (a - c)∧fitO (a - c)=0:=by
  unfold Fit at ha hc
  have h5:Fit (a - c):=by
    unfold Fit
    by_cases h6:c < 0
    · rw [wrap_le (by omega) (by omega)] at h1; omega
    · by_cases h7:c > 0
      · rw [wrap_le (by omega) (by omega)] at h2; omega
      · omega
  have h3:=fit_in h5
  unfold Fit at h5
  rw [h3.1,h3.2.1,wrap_le h5.1 h5.2]; exact ⟨rfl,rfl⟩
def absN (a:Int):Int:=if a < 0 then -a else a
theorem absN_bnd (ha:Fit a):0≤absN a∧absN a≤9223372036854775808:=by unfold Fit at ha; unfold absN; split<;>omega
theorem abs_1' (ha:Fit a) (h:a < 0):absN a=IntKind.wrap .u64 (0 - (IntKind.wrap .u64 a)):=by
  unfold Fit at ha; unfold absN; rw [if_pos h,wrap_u64_eq,wrap_u64_eq]; omega
theorem abs_2 (ha:Fit a) (h:¬ a < 0):absN a=IntKind.wrap .u64 a:=by
  unfold Fit at ha; unfold absN; rw [if_neg h,wrap_u64_eq]; omega
theorem abs_mul (a c:Int):a * c=if decide (a < 0)=decide (c < 0) then absN a * absN c else -(absN a * absN c):=by
  unfold absN
  by_cases h1:a < 0<;>by_cases h2:c < 0<;>simp [h1,h2,Int.neg_mul,Int.mul_neg]
def mulHi (x y:Int):Int:=x * y / 18446744073709551616
def mulLo (x y:Int):Int:=x * y % 18446744073709551616
def mostN (a c:Int):Int:=if decide (a < 0)=decide (c < 0) then 9223372036854775807 else 9223372036854775808
theorem abs_prod (ha:Fit a) (hc:Fit c):0≤absN a * absN c:=Int.mul_nonneg (absN_bnd ha).1 (absN_bnd hc).1
theorem hi_no (ha:Fit a) (hc:Fit c) {m:Int} (hm:0≤m∧m < 18446744073709551616):(mulHi (absN a) (absN c) > 0∨mulLo (absN a) (absN c) > m)↔absN a * absN c > m:=by
  have h0:=abs_prod ha hc
  unfold mulHi mulLo
  generalize absN a * absN c=q at *
  omega
theorem mul_over (hg:absN a * absN c > mostN a c):fitN (a * c)=0∧fitO (a * c)=if decide (a < 0)=decide (c < 0) then 1 else -1:=by
  rw [abs_mul a c]
  unfold mostN at hg
  generalize absN a * absN c=q at *
  by_cases h:decide (a < 0)=decide (c < 0)
  · simp only [if_pos h] at *
    have:=fit_big hg
    exact ⟨this.1,this.2.1⟩
  · simp only [if_neg h] at *
    have:=fit_low (x:=-q) (by omega)
    exact ⟨this.1,this.2.1⟩
theorem mul_fits (ha:Fit a) (hc:Fit c) (hg:¬ absN a * absN c > mostN a c):Fit (a * c):=by
  rw [abs_mul a c]
  have h0:=abs_prod ha hc
  unfold mostN at hg
  generalize absN a * absN c=q at *
  unfold Fit
  by_cases h:decide (a < 0)=decide (c < 0)
  · simp only [if_pos h] at *; omega
  · simp only [if_neg h] at *; omega
theorem mul_low (ha:Fit a) (hc:Fit c) (hg:¬ absN a * absN c > mostN a c) (h:¬ decide (a < 0)=decide (c < 0)):a * c=IntKind.wrap .i64 (IntKind.wrap .u64 (-(mulLo (absN a) (absN c)))):=by
  have h1:=mul_fits ha hc hg
  have h0:=abs_prod ha hc
  have h2:=abs_mul a c
  unfold mostN at hg
  unfold mulLo
  rw [if_neg h] at h2 hg
  unfold Fit at h1
  generalize absN a * absN c=q at *
  rw [wrap_i64_eq,wrap_u64_eq]
  omega
theorem mul_low' (ha:Fit a) (hc:Fit c) (hg:¬ absN a * absN c > mostN a c) (h:¬ decide (a < 0)=decide (c < 0)):a * c=IntKind.wrap .i64 (IntKind.wrap .u64 (0 - (mulLo (absN a) (absN c)))):=by
  rw [Int.zero_sub]; exact mul_low ha hc hg h
theorem mul_high (ha:Fit a) (hc:Fit c) (hg:¬ absN a * absN c > mostN a c) (h:decide (a < 0)=decide (c < 0)):a * c=IntKind.wrap .i64 (mulLo (absN a) (absN c)):=by
  have h1:=mul_fits ha hc hg
  have h0:=abs_prod ha hc
  have h2:=abs_mul a c
  unfold mostN at hg
  unfold mulLo
  rw [if_pos h] at h2 hg
  unfold Fit at h1
  generalize absN a * absN c=q at *
  rw [wrap_i64_eq]
  omega
theorem div_over (hc:Fit c) (h0:¬ c=0) {m x:Int} (hm:0≤m∧m≤9223372036854775808):x > IntKind.wrap .u64 (Int.tdiv m (absN c))↔x * absN c > m:=by
  have h1:=absN_bnd hc
  have h2:0 < absN c:=by unfold absN; split<;>omega
  have h3:Int.tdiv m (absN c)=m / absN c:=Int.tdiv_eq_ediv_of_nonneg hm.1
  have h4:0≤m / absN c:=Int.ediv_nonneg hm.1 h1.1
  have h5:m / absN c≤m:=Int.ediv_le_self _ hm.1
  rw [h3,wrap_u64_eq,Int.emod_eq_of_lt h4 (by omega)]
  exact Int.ediv_lt_iff_lt_mul h2
section
variable {a c:Int}
theorem absN_ne (h:¬ c=0):absN c≠0:=by unfold absN; split<;>omega
theorem mul_zero9 (h:a=0∨c=0):fitN (a * c)=0∧fitO (a * c)=0:=by
  have e:a * c=0:=by rcases h with h | h<;>rw [h]<;>simp
  rw [e]; exact ⟨rfl,rfl⟩
theorem most_ne (h:¬ decide (a < 0)=decide (c < 0)):mostN a c=9223372036854775808:=by unfold mostN; rw [if_neg h]
theorem most_eq (h:decide (a < 0)=decide (c < 0)):mostN a c=9223372036854775807:=by unfold mostN; rw [if_pos h]
theorem smul_1 (hc:Fit c) (h0:¬ c=0) (h:¬ decide (a < 0)=decide (c < 0)) (h2:absN a > IntKind.wrap .u64 (Int.tdiv 9223372036854775808 (absN c))):fitN (a * c)=0∧fitO (a * c)=-1:=by
  have h3:=mul_over (a:=a) (c:=c) (by rw [most_ne h]; exact (div_over hc h0 (by omega)).1 h2)
  rw [if_neg h] at h3; exact h3
theorem smul_3 (ha:Fit a) (hc:Fit c) (h0:¬ c=0) (h:¬ decide (a < 0)=decide (c < 0)) (h2:¬ absN a > IntKind.wrap .u64 (Int.tdiv 9223372036854775808 (absN c))):fitN (a * c)=IntKind.wrap .i64 (a * c)∧fitO (a * c)=0:=by
  have h3:=mul_fits ha hc (by rw [most_ne h]; exact fun h9=>h2 ((div_over hc h0 (by omega)).2 h9))
  have h4:=fit_in h3
  unfold Fit at h3
  rw [h4.1,h4.2.1,wrap_le h3.1 h3.2]; exact ⟨rfl,rfl⟩
theorem smul_5 (hc:Fit c) (h0:¬ c=0) (h:decide (a < 0)=decide (c < 0)) (h2:absN a > IntKind.wrap .u64 (Int.tdiv 9223372036854775807 (absN c))):fitN (a * c)=0∧fitO (a * c)=1:=by
  have h3:=mul_over (a:=a) (c:=c) (by rw [most_eq h]; exact (div_over hc h0 (by omega)).1 h2)
  rw [if_pos h] at h3; exact h3
theorem smul_6 (ha:Fit a) (hc:Fit c) (h0:¬ c=0) (h:decide (a < 0)=decide (c < 0)) (h2:¬ absN a > IntKind.wrap .u64 (Int.tdiv 9223372036854775807 (absN c))):fitN (a * c)=IntKind.wrap .i64 (a * c)∧fitO (a * c)=0:=by
  have h3:=mul_fits ha hc (by rw [most_eq h]; exact fun h9=>h2 ((div_over hc h0 (by omega)).2 h9))
  have h4:=fit_in h3
  unfold Fit at h3
  rw [h4.1,h4.2.1,wrap_le h3.1 h3.2]; exact ⟨rfl,rfl⟩
theorem wrap_most:IntKind.wrap .u64 (9223372036854775807+1)=9223372036854775808:=by rw [wrap_u64_eq]; decide
theorem imul_0 (ha:Fit a) (hc:Fit c) (h:¬ decide (a < 0)=decide (c < 0)) (h2:mulHi (absN a) (absN c) > 0∨mulLo (absN a) (absN c) > IntKind.wrap .u64 (9223372036854775807+1)):fitN (a * c)=0∧fitO (a * c)=bif decide (a < 0) != decide (c < 0) then -1 else 1:=by
  rw [wrap_most] at h2
  have h3:=mul_over (a:=a) (c:=c) (by rw [most_ne h]; exact (hi_no ha hc (by omega)).1 h2)
  rw [if_neg h] at h3
  refine ⟨h3.1,h3.2.trans ?_⟩
  rw [bne_iff_ne.2 h]; rfl
theorem imul_1 (ha:Fit a) (hc:Fit c) (h:¬ decide (a < 0)=decide (c < 0)) (h2:¬ mulHi (absN a) (absN c) > 0∧¬ mulLo (absN a) (absN c) > IntKind.wrap .u64 (9223372036854775807+1)):fitN (a * c)=IntKind.wrap .i64 (IntKind.wrap .u64 (0 - mulLo (absN a) (absN c)))∧fitO (a * c)=0:=by
  rw [wrap_most] at h2
  have hg:¬ absN a * absN c > mostN a c:=by rw [most_ne h]; exact fun h9=>((hi_no ha hc (by omega)).2 h9).elim h2.1 h2.2
  have h4:=fit_in (mul_fits ha hc hg)
  rw [h4.1,h4.2.1,← mul_low' ha hc hg h]; exact ⟨rfl,rfl⟩
theorem imul_3 (ha:Fit a) (hc:Fit c) (h:decide (a < 0)=decide (c < 0)) (h2:mulHi (absN a) (absN c) > 0∨mulLo (absN a) (absN c) > 9223372036854775807):fitN (a * c)=0∧fitO (a * c)=bif decide (a < 0) != decide (c < 0) then -1 else 1:=by
  have h3:=mul_over (a:=a) (c:=c) (by rw [most_eq h]; exact (hi_no ha hc (by omega)).1 h2)
  rw [if_pos h] at h3
  refine ⟨h3.1,h3.2.trans ?_⟩
  rw [h]; simp
theorem imul_5 (ha:Fit a) (hc:Fit c) (h:decide (a < 0)=decide (c < 0)) (h2:¬ mulHi (absN a) (absN c) > 0∧¬ mulLo (absN a) (absN c) > 9223372036854775807):fitN (a * c)=IntKind.wrap .i64 (mulLo (absN a) (absN c))∧fitO (a * c)=0:=by
  have hg:¬ absN a * absN c > mostN a c:=by rw [most_eq h]; exact fun h9=>((hi_no ha hc (by omega)).2 h9).elim h2.1 h2.2
  have h4:=fit_in (mul_fits ha hc hg)
  rw [h4.1,h4.2.1,← mul_high ha hc hg h]; exact ⟨rfl,rfl⟩
end
theorem nat_of {x:Int} (h:0≤x∧x≤9223372036854775808):∃ n:Nat,x=n∧n < 18446744073709551616:=⟨x.toNat,by omega,by omega⟩
theorem mask_eq {a:Nat} (ha:a < 18446744073709551616):IntKind.wrap .u64 ((BitVec.ofInt (IntKind.bits .u64) (a:Int) &&& BitVec.ofInt (IntKind.bits .u64) 4294967295).toNat:Int)=((a % 4294967296:Nat):Int):=by
  have h1:(BitVec.ofInt (IntKind.bits .u64) (a:Int) &&& BitVec.ofInt (IntKind.bits .u64) 4294967295).toNat=a % 4294967296:=by
    rw [BitVec.toNat_and]
    have e1:(BitVec.ofInt (IntKind.bits .u64) (a:Int)).toNat=a:=by
      rw [BitVec.toNat_ofInt]; simp only [IntKind.bits]; omega
    have e2:(BitVec.ofInt (IntKind.bits .u64) 4294967295).toNat=2 ^ 32 - 1:=by decide
    rw [e1,e2,Nat.and_two_pow_sub_one_eq_mod]
  rw [h1,wrap_u64_eq]; omega
theorem shr_eq (a:Nat):(a:Int).fdiv (2 ^ (min ((32:Int)).toNat (IntKind.bits .u64)))=((a / 4294967296:Nat):Int):=by
  have e:(2:Int) ^ (min ((32:Int)).toNat (IntKind.bits .u64))=4294967296:=by decide
  rw [e,Int.fdiv_eq_ediv_of_nonneg _ (by omega)]; omega
theorem mulw_eq {a b:Nat} (h:a * b < 18446744073709551616):IntKind.wrap .u64 ((a:Int) * (b:Int))=((a * b:Nat):Int):=by
  rw [wrap_u64_eq,← Int.natCast_mul]; omega
theorem addw_eq {a b:Nat} (h:a+b < 18446744073709551616):IntKind.wrap .u64 ((a:Int)+(b:Int))=((a+b:Nat):Int):=by
  rw [wrap_u64_eq]; omega
theorem mul64_lo9 {x y:Int} (hx:0≤x∧x≤9223372036854775808) (hy:0≤y∧y≤9223372036854775808):IntKind.wrap .u64 (x * y)=mulLo x y:=by
  rw [wrap_u64_eq]; rfl
theorem mul64_hi9 {x y:Int} (hx:0≤x∧x≤9223372036854775808) (hy:0≤y∧y≤9223372036854775808):IntKind.wrap .u64 (IntKind.wrap .u64 (IntKind.wrap .u64 ((x).fdiv (2 ^ (min ((32:Int)).toNat (IntKind.bits .u64))) * (y).fdiv (2 ^ (min ((32:Int)).toNat (IntKind.bits .u64))))+(IntKind.wrap .u64 (IntKind.wrap .u64 ((x).fdiv (2 ^ (min ((32:Int)).toNat (IntKind.bits .u64))) * IntKind.wrap .u64 ((BitVec.ofInt (IntKind.bits .u64) (y) &&& BitVec.ofInt (IntKind.bits .u64) 4294967295).toNat:Int))+(IntKind.wrap .u64 (IntKind.wrap .u64 ((BitVec.ofInt (IntKind.bits .u64) (x) &&& BitVec.ofInt (IntKind.bits .u64) 4294967295).toNat:Int) * IntKind.wrap .u64 ((BitVec.ofInt (IntKind.bits .u64) (y) &&& BitVec.ofInt (IntKind.bits .u64) 4294967295).toNat:Int))).fdiv (2 ^ (min ((32:Int)).toNat (IntKind.bits .u64))))).fdiv (2 ^ (min ((32:Int)).toNat (IntKind.bits .u64))))+(IntKind.wrap .u64 (IntKind.wrap .u64 ((BitVec.ofInt (IntKind.bits .u64) (IntKind.wrap .u64 (IntKind.wrap .u64 ((x).fdiv (2 ^ (min ((32:Int)).toNat (IntKind.bits .u64))) * IntKind.wrap .u64 ((BitVec.ofInt (IntKind.bits .u64) (y) &&& BitVec.ofInt (IntKind.bits .u64) 4294967295).toNat:Int))+(IntKind.wrap .u64 (IntKind.wrap .u64 ((BitVec.ofInt (IntKind.bits .u64) (x) &&& BitVec.ofInt (IntKind.bits .u64) 4294967295).toNat:Int) * IntKind.wrap .u64 ((BitVec.ofInt (IntKind.bits .u64) (y) &&& BitVec.ofInt (IntKind.bits .u64) 4294967295).toNat:Int))).fdiv (2 ^ (min ((32:Int)).toNat (IntKind.bits .u64))))) &&& BitVec.ofInt (IntKind.bits .u64) 4294967295).toNat:Int)+IntKind.wrap .u64 (IntKind.wrap .u64 ((BitVec.ofInt (IntKind.bits .u64) (x) &&& BitVec.ofInt (IntKind.bits .u64) 4294967295).toNat:Int) * (y).fdiv (2 ^ (min ((32:Int)).toNat (IntKind.bits .u64)))))).fdiv (2 ^ (min ((32:Int)).toNat (IntKind.bits .u64))))=mulHi x y:=by
  obtain ⟨m,rfl,hm⟩:=nat_of hx
  obtain ⟨n,rfl,hn⟩:=nat_of hy
  obtain ⟨bd,bt,bw,hhi⟩:=Lib.mul64_hi m n hm hn
  have ba:=Lib.half_mul_le (a:=m / 4294967296) (b:=n / 4294967296) (by omega) (by omega)
  have bb:=Lib.half_mul_le (a:=m / 4294967296) (b:=n % 4294967296) (by omega) (by omega)
  have bc:=Lib.half_mul_le (a:=m % 4294967296) (b:=n / 4294967296) (by omega) (by omega)
  rw [mask_eq hm,mask_eq hn,shr_eq,shr_eq,mulw_eq bd,shr_eq,mulw_eq (a:=m / 4294967296) (b:=n % 4294967296) (by omega),addw_eq bt,shr_eq,mask_eq bt,mulw_eq (a:=m % 4294967296) (b:=n / 4294967296) (by omega),addw_eq bw,shr_eq,mulw_eq (a:=m / 4294967296) (b:=n / 4294967296) (by omega),addw_eq (by omega),addw_eq (by omega),hhi]
  unfold mulHi; rw [← Int.natCast_mul]; omega
def quoN (a c:Int):Int:=if c=0 then 0 else fitN (Int.tdiv a c)
def quoO (a c:Int):Int:=if c=0 then 0 else fitO (Int.tdiv a c)
def remN (a c:Int):Int:=if c=0 then 0 else Int.tmod a c
theorem tdiv_bnd (ha:Fit a) (h:¬ (a=-9223372036854775808∧c=-1)):Fit (Int.tdiv a c):=by
  unfold Fit at *
  have h1:(Int.tdiv a c).natAbs=a.natAbs / c.natAbs:=Int.natAbs_tdiv a c
  by_cases e:c=0
  · subst e; simp
  · have h2:a.natAbs / c.natAbs≤a.natAbs:=Nat.div_le_self _ _
    by_cases e1:c=1
    · subst e1; simp; omega
    · by_cases e2:c=-1
      · subst e2; simp; omega
      · have h3:2≤c.natAbs:=by omega
        have h4:a.natAbs / c.natAbs≤a.natAbs / 2:=Nat.div_le_div_left h3 (by omega)
        omega
theorem quo_end (ha:Fit a) (h0:¬ c=0) (h:¬ a=-9223372036854775808∨¬ c=-1):quoN a c=IntKind.wrap .i64 (Int.tdiv a c)∧quoO a c=0:=by
  have h1:=tdiv_bnd (c:=c) ha (by omega)
  have h2:=fit_in h1
  unfold Fit at h1
  unfold quoN quoO
  rw [if_neg h0,if_neg h0,h2.1,h2.2.1,wrap_le h1.1 h1.2]; exact ⟨rfl,rfl⟩
theorem quo_neg (ha:Fit a) (h:c=-1):quoN a c=fitN (0 - a)∧quoO a c=fitO (0 - a):=by
  subst h; unfold quoN quoO
  rw [if_neg (by decide),if_neg (by decide)]
  have:Int.tdiv a (-1)=0 - a:=by rw [Int.tdiv_neg,Int.tdiv_one,Int.zero_sub]
  rw [this]; exact ⟨rfl,rfl⟩
theorem rem_no (h:c=0∨c=-1):remN a c=0:=by
  unfold remN; rcases h with h | h
  · rw [if_pos h]
  · subst h; rw [if_neg (by decide)]; simp
theorem rem_end (h:¬ c=0):remN a c=Int.tmod a c:=by unfold remN; rw [if_neg h]
end
def cmpB (op a b:Int):Bool:=if op=13 then decide (a < b) else if op=14 then decide (a≤b) else if op=15 then a == b else if op=16 then a != b else if op=17 then decide (a > b) else decide (a≥b)
def apN (op a b:Int):Int:=if op=8 then fitN (a+b) else if op=9 then fitN (a - b) else if op=10 then fitN (a * b) else if op=20 then min a b else if op=21 then max a b
  else if op=11 then quoN a b else if op=12 then remN a b else truthN (cmpB op a b)
def apC (op a b:Int):Int:=if op=8 then fitC (a+b) else if op=9 then fitC (a - b) else if op=10 then fitC (a * b) else if op=20 then 0 else if op=21 then 0
  else if op=11 then (if b=0 then 4 else fitC (Int.tdiv a b)) else if op=12 then (if b=0 then 4 else 0) else 0
theorem truthN_01 (b:Bool):truthN b=0∨truthN b=1:=by cases b; exact .inl rfl; exact .inr rfl
section
variable {op a b:Int}
end
def thingV (s:Store) (t:Tok):Int:=if t.op=1 then t.n else if t.op=2 then s.ints.getD t.n.toNat default else if t.op=3 then truthN (s.flags.getD t.n.toNat default) else truthN (t.op == 4)
def ofN (s:Store) (t:Tok) (a:Int):Int:=if t.op=6 then (if inR a 0 (((s.arrs.getD t.n.toNat default).length:Int) - 1)=true then (s.arrs.getD t.n.toNat default).getD a.toNat default else 0) else if t.op=7 then fitN (0 - a) else 1 - a
def ofC (s:Store) (t:Tok) (a:Int):Int:=if t.op=6 then (if inR a 0 (((s.arrs.getD t.n.toNat default).length:Int) - 1)=true then 0 else 5) else if t.op=7 then fitC (0 - a) else 0
section
variable {s:Store} {t:Tok} {a:Int}
end
def topN (p:List Int) (i:Nat):Int:=p.getD (p.length - i) default
def opN (s:Store) (p:List Int) (t:Tok):Int:=if takesN t.op=0 then thingV s t else if takesN t.op=1 then ofN s t (topN p 1) else apN t.op (topN p 2) (topN p 1)
def opC (s:Store) (p:List Int) (t:Tok):Int:=if takesN t.op=0 then 0 else if takesN t.op=1 then ofC s t (topN p 1) else apC t.op (topN p 2) (topN p 1)
def nxP (s:Store) (p:List Int) (t:Tok):List Int:=p.take (p.length - (takesN t.op).toNat)++[opN s p t]
def evS (s:Store) (l:List Tok):Nat→Int × List Int
  | 0=>(0,[])
  | j+1=>if (evS s l j).1=0 then (if opC s (evS s l j).2 (l.getD j default)=0 then (0,nxP s (evS s l j).2 (l.getD j default)) else (opC s (evS s l j).2 (l.getD j default),[])) else evS s l j
def evN (s:Store) (l:List Tok):Int:=if (evS s l l.length).1=0 then (evS s l l.length).2.getD 0 default else 0
def evC (s:Store) (l:List Tok):Int:=(evS s l l.length).1
def Eval.n (d:Decl) (l:List Tok) (s:Store):Int:=if Store.ok d s=true∧¬ Expr.kind d l=0 then evN s l else 0
def Eval.c (d:Decl) (l:List Tok) (s:Store):Int:=if Store.ok d s=true∧¬ Expr.kind d l=0 then evC s l else 1
section
variable {s:Store} {l:List Tok} {j:Nat} {p:List Int}
end
theorem kd_next_some {d:Decl} {l:List Tok} (hk:¬ Expr.kind d l=0) {j:Nat} (hj:j≤l.length):∃ k,kdS d l j=some k:=by
  cases h:kdS d l j with
  | none=>exact absurd (kind_none hj h) hk
  | some k=>exact ⟨k,rfl⟩
theorem kd_step_eq {d:Decl} {l:List Tok} (hk:¬ Expr.kind d l=0) {j:Nat} (hj:j < l.length) {k:List Int} (h:kdS d l j=some k) :
    Tok.ok d (l.getD j default)=true∧kdS d l (j+1)=some (k.take (k.length - (takesN (l.getD j default).op).toNat)++[kdL (l.getD j default).op])∧takesN (l.getD j default).op≤k.length ∧
    (1≤takesN (l.getD j default).op→k.getD (k.length - 1) default=kdT (l.getD j default).op)∧(2≤takesN (l.getD j default).op→k.getD (k.length - 2) default=kdT (l.getD j default).op):=by
  obtain ⟨k2,h2⟩:=kd_next_some hk (j:=j+1) hj
  generalize ht:l.getD j default=t at *
  have ho:Tok.ok d t=true:=by
    cases e:Tok.ok d t with
    | true=>rfl
    | false=>rw [kdS_bad h (by rw [ht]; exact e)] at h2; cases h2
  have h3:=kdS_go h (by rw [ht]; exact ho)
  rw [h2,ht] at h3
  obtain ⟨a1,a2,a3⟩:=takes_same (Tok.ok_op ho)
  unfold kst at h3
  split at h3
  · rename_i hc
    simp only [Option.some.injEq] at h3
    have e1:(takesN t.op).toNat=(takesL t.op).length:=by omega
    have hd:∀ i,i < (takesL t.op).length→k.getD (k.length - (takesL t.op).length+i) default=kdT t.op:=fun i hi=>by
      have h5:k[k.length - (takesL t.op).length+i]?=(takesL t.op)[i]?:=by rw [← List.getElem?_drop,hc.2]
      rw [List.getD_eq_getElem?_getD,h5,List.getElem?_eq_getElem hi]
      exact a2 _ (List.getElem_mem hi)
    refine ⟨ho,by rw [h2,h3,e1,a3],by omega,fun h1=>?_,fun h1=>?_⟩
    · have:=hd ((takesL t.op).length - 1) (by omega)
      rwa [show k.length - (takesL t.op).length+((takesL t.op).length - 1)=k.length - 1 by omega] at this
    · have h9:=takesN_bnd t.op
      have:=hd 0 (by omega)
      rwa [show k.length - (takesL t.op).length+0=k.length - 2 by omega] at this
  · cases h3
theorem apN_fit {op a b:Int} (ha:Fit a) (hb:Fit b):Fit (apN op a b):=by
  unfold apN
  repeat' split
  · exact fitN_fit _
  · exact fitN_fit _
  · exact fitN_fit _
  · unfold Fit at *; omega
  · unfold Fit at *; omega
  · unfold quoN; split
    · unfold Fit; omega
    · exact fitN_fit _
  · unfold remN; split
    · unfold Fit; omega
    · have h1:(Int.tmod a b).natAbs≤a.natAbs:=by rw [Int.natAbs_tmod]; exact Nat.mod_le _ _
      unfold Fit at *
      have h2:a=-9223372036854775808→Int.tmod a b≤0:=fun e=>by
        have:=Int.tmod_nonneg b (a:=-a) (by omega)
        rw [Int.neg_tmod] at this; omega
      omega
  · have:=truthN_01 (cmpB op a b); unfold Fit; omega
section
variable {s:Store} {p:List Int} {t:Tok}
end
section
variable {s:Store} {p:List Int} {t:Tok}
end
section
variable {s:Store} {l:List Tok} {j:Nat} {p:List Int}
end
theorem kind_len {d:Decl} {l:List Tok} (hk:¬ Expr.kind d l=0):l.length≤40:=by
  by_cases h:l.length≤40
  · exact h
  · exact absurd (kind_long h) hk
theorem takesN_ops {op:Int} (h:1≤op∧op≤21):(op=1∨op=2∨op=3∨op=4∨op=5→takesN op=0)∧(op=6∨op=7∨op=19→takesN op=1)∧(8≤op→¬ op=19→takesN op=2):=by
  unfold takesN
  refine ⟨fun h1=>if_pos (by omega),fun h1=>?_,fun h1 h2=>?_⟩
  · rw [if_neg (by omega),if_pos (by omega)]
  · rw [if_neg (by omega),if_neg (by omega)]
theorem fit_good {x:Int} (h:(Lit.int .i64 x).wf=true):Fit x:=by
  simp only [Lit.wf,Bool.and_eq_true,decide_eq_true_eq] at h
  have h2:IntKind.min .i64=-9223372036854775808:=rfl
  have h3:IntKind.max .i64=9223372036854775807:=rfl
  unfold Fit; omega
end Go.Proofs

namespace Go.Proofs
open Go Go.Ev
variable [Lay]
def mayB (op:Int) (a b:Iv):Bool:=if op=13 then decide (a.lo < b.hi) else if op=14 then decide (a.lo≤b.hi) else if op=15 then (decide (a.lo≤b.hi)&&decide (b.lo≤a.hi)) else if op=16 then !(a.lo == a.hi&&b.lo == b.hi&&a.lo == b.lo) else if op=17 then decide (b.lo < a.hi) else decide (b.lo≤a.hi)
def oppN (op:Int):Int:=if op=13 then 18 else if op=14 then 17 else if op=15 then 16 else if op=16 then 15 else if op=17 then 14 else 13
def turnN (op:Int):Int:=if op=13 then 17 else if op=14 then 18 else if op=17 then 13 else if op=18 then 14 else op
def cmI (op:Int) (a b:Iv):Iv:=⟨if mayB (oppN op) a b=true then 0 else 1,if mayB op a b=true then 1 else 0⟩
def cmB (op:Int) (a b:Iv):Bool:=inR op 13 18&&(Iv.ok a&&Iv.ok b)
def cmV (op:Int) (a b:Iv):Iv:=if cmB op a b=true then cmI op a b else ⟨0,0⟩
theorem cmB_no {op:Int} {a b:Iv} (h:(inR op 13 18=false∨Iv.ok a=false)∨Iv.ok b=false):cmB op a b=false:=by
  unfold cmB; rcases h with (h | h) | h<;>rw [h]<;>simp
theorem cmB_no2 {op:Int} {a b:Iv} (h:inR op 13 18=false∨(Iv.ok a=false∨Iv.ok b=false)):cmB op a b=false:=cmB_no (by rcases h with h | h | h; exact .inl (.inl h); exact .inl (.inr h); exact .inr h)
theorem cmB_yes {op:Int} {a b:Iv} (h:(inR op 13 18=true∧Iv.ok a=true)∧Iv.ok b=true):cmB op a b=true:=by unfold cmB; rw [h.1.1,h.1.2,h.2]; rfl
theorem cmV_no {op:Int} {a b:Iv} (h:cmB op a b=false):cmV op a b=⟨0,0⟩:=by unfold cmV; rw [if_neg (by rw [h]; decide)]
theorem cmV_yes {op:Int} {a b:Iv} (h:cmB op a b=true):cmV op a b=cmI op a b:=by unfold cmV; rw [if_pos h]
theorem iv_ok_iff {a:Iv}:Iv.ok a=true↔a.lo≤a.hi:=by unfold Iv.ok; simp
section
variable {op:Int} {a b:Iv}
theorem cm_get (h:cmB op a b=true):(13≤op∧op≤18)∧a.lo≤a.hi∧b.lo≤b.hi:=by
  unfold cmB at h; simp only [Bool.and_eq_true,iv_ok_iff,inR_iff] at h; exact ⟨h.1,h.2.1,h.2.2⟩
theorem may_all (h:cmB op a b=true):mayB op a b=true∨mayB (oppN op) a b=true:=by
  obtain ⟨h1,h2,h3⟩:=cm_get h
  have h4:op=13∨op=14∨op=15∨op=16∨op=17∨op=18:=by omega
  rcases h4 with rfl | rfl | rfl | rfl | rfl | rfl<;>simp [mayB,oppN]<;>omega
theorem opp_opp (h:13≤op∧op≤18):oppN (oppN op)=op:=by
  have h4:op=13∨op=14∨op=15∨op=16∨op=17∨op=18:=by omega
  rcases h4 with rfl | rfl | rfl | rfl | rfl | rfl<;>rfl
theorem opp_in (h:13≤op∧op≤18):13≤oppN op∧oppN op≤18:=by
  have h4:op=13∨op=14∨op=15∨op=16∨op=17∨op=18:=by omega
  rcases h4 with rfl | rfl | rfl | rfl | rfl | rfl<;>decide
theorem turn_may (h:17≤op∧op≤18):mayB (turnN op) b a=mayB op a b:=by
  have h4:op=17∨op=18:=by omega
  rcases h4 with rfl | rfl<;>rfl
theorem turn_in (h:17≤op∧op≤18):13≤turnN op∧turnN op≤14:=by
  have h4:op=17∨op=18:=by omega
  rcases h4 with rfl | rfl<;>decide
end
section
variable {op:Int} {a b:Iv}
end
section
variable {op:Int} {a b X:Iv}
theorem opp_list (h:13≤op∧op≤18):([18,17,16,15,14,13]:List Int).getD (op - 13).toNat default=oppN op:=by
  have h4:op=13∨op=14∨op=15∨op=16∨op=17∨op=18:=by omega
  rcases h4 with rfl | rfl | rfl | rfl | rfl | rfl<;>rfl
def allB (op:Int) (a b:Iv):Bool:=!mayB (oppN op) a b
def truthI (f h:Bool):Iv:=if f=false then ⟨1,1⟩ else if h=false then ⟨0,0⟩ else ⟨0,1⟩
theorem truthI_cm (hc:cmB op a b=true):truthI (mayB (oppN op) a b) (mayB op a b)=cmV op a b:=by
  have h1:=may_all hc
  rw [cmV_yes hc]; unfold truthI cmI
  cases e1:mayB (oppN op) a b<;>cases e2:mayB op a b<;>first | rfl | (rw [e1,e2] at h1; simp at h1)
theorem all_cm (hc:cmB op a b=true):truthN (allB op a b)=(cmV op a b).lo∧1 - truthN (allB (oppN op) a b)=(cmV op a b).hi:=by
  have h1:=(cm_get hc).1
  rw [cmV_yes hc]; unfold allB cmI; rw [opp_opp h1]
  cases e1:mayB (oppN op) a b<;>cases e2:mayB op a b<;>exact ⟨rfl,rfl⟩
theorem all_is (h:13≤op∧op≤18):allB op a b=if op=13 then decide (a.hi < b.lo) else if op=14 then decide (a.hi≤b.lo) else if op=15 then (a.lo == a.hi&&(b.lo == b.hi&&a.lo == b.lo)) else if op=16 then (decide (a.hi < b.lo)||decide (b.hi < a.lo)) else if op=17 then decide (a.lo > b.hi) else decide (a.lo≥b.hi):=by
  have h4:op=13∨op=14∨op=15∨op=16∨op=17∨op=18:=by omega
  unfold allB
  rcases h4 with rfl | rfl | rfl | rfl | rfl | rfl<;>rw [Bool.eq_iff_iff]<;>simp [mayB,oppN]<;>omega
end
section
variable {c:List Int}
end
end Go.Proofs

namespace Go.Proofs
open Go Go.Ev
variable [Lay]
theorem eq4 {α α2 α3 α4 β:Type} (f:α→α2→α3→α4→β) {a b:α} {a2 b2:α2} {a3 b3:α3} {a4 b4:α4} (h:a=b) (h2:a2=b2) (h3:a3=b3) (h4:a4=b4):f a a2 a3 a4=f b b2 b3 b4:=by rw [h,h2,h3,h4]
structure Val where
  iv:Iv
  live:Bool
  alarms:Int
deriving Inhabited
structure Corn where
  list:List Int
  isBelow:Bool
  isAbove:Bool
deriving Inhabited
def Val.same (a b:Val):Bool:=Iv.same a.iv b.iv&&a.live == b.live&&a.alarms == b.alarms
theorem Val.same_self (a:Val):Val.same a a=true:=by simp [Val.same,Iv.same]
abbrev orI (a b:Int):Int:=IntKind.wrap .i64 ((BitVec.ofInt (IntKind.bits .i64) a ||| BitVec.ofInt (IntKind.bits .i64) b).toNat:Int)
theorem Val.parts {a b al:Int} {l:Bool} {v:Val} (h:(⟨⟨a,b⟩,l,al⟩:Val)=v):(a=v.iv.lo∧b=v.iv.hi)∧l=v.live∧al=v.alarms:=by subst h; exact ⟨⟨rfl,rfl⟩,rfl,rfl⟩
theorem Val.eqs {u v:Val} (h:u=v):(u.iv.lo=v.iv.lo∧u.iv.hi=v.iv.hi)∧u.live=v.live∧u.alarms=v.alarms:=by subst h; exact ⟨⟨rfl,rfl⟩,rfl,rfl⟩
def cnX (o x y:Int):Int:=if o=43 then x+y else if o=45 then x - y else if o=42 then x * y else if y=0 then 0 else Int.tdiv x y
section
variable {o x y:Int}
theorem cn_43 (hx:Fit x) (hy:Fit y) (h:o=43):addV x y=fitN (cnX o x y)∧addO x y=fitO (cnX o x y):=by subst h; exact addV_fit hx hy
theorem cn_45 (h:o=45):fitN (x - y)=fitN (cnX o x y)∧fitO (x - y)=fitO (cnX o x y):=by subst h; exact ⟨rfl,rfl⟩
theorem cn_42 (h:o=42):fitN (x * y)=fitN (cnX o x y)∧fitO (x * y)=fitO (cnX o x y):=by subst h; exact ⟨rfl,rfl⟩
theorem cn_47 (h:¬ o=43) (h2:¬ o=45) (h3:¬ o=42):quoN x y=fitN (cnX o x y)∧quoO x y=fitO (cnX o x y):=by
  unfold cnX; rw [if_neg h,if_neg h2,if_neg h3]; unfold quoN quoO
  by_cases h4:y=0
  · rw [if_pos h4,if_pos h4,if_pos h4]; exact ⟨rfl,rfl⟩
  · rw [if_neg h4,if_neg h4,if_neg h4]; exact ⟨rfl,rfl⟩
end
def mnT (l:List Int):Nat→Int
  | 0=>l.getD 0 default
  | j+1=>min (mnT l j) (l.getD (j+1) default)
def mxT (l:List Int):Nat→Int
  | 0=>l.getD 0 default
  | j+1=>max (mxT l j) (l.getD (j+1) default)
def mnV (l:List Int):Int:=mnT l (l.length - 1)
def mxV (l:List Int):Int:=mxT l (l.length - 1)
def IsMin (l:List Int) (m:Int):Prop:=m∈l∧∀ x∈l,m≤x
def IsMax (l:List Int) (m:Int):Prop:=m∈l∧∀ x∈l,x≤m
section
variable {l r:List Int} {m n:Int}
theorem mnT_is:∀ j,j < l.length→(∃ i,i≤j∧mnT l j=l.getD i default)∧∀ i,i≤j→mnT l j≤l.getD i default
  | 0, _ => ⟨⟨0, Nat.le_refl _, rfl⟩, fun i hi => by have : i = 0 := by omega
                                                     subst this; exact Int.le_refl _⟩
  | j+1,h=>by
    obtain ⟨⟨i,hi,e⟩,h2⟩:=mnT_is j (by omega)
    simp only [mnT]
    refine ⟨?_,fun k hk=>?_⟩
    · by_cases h3:mnT l j≤l.getD (j+1) default
      · exact ⟨i,by omega,by omega⟩
      · exact ⟨j+1,Nat.le_refl _,by omega⟩
    · by_cases h3:k≤j
      · have:=h2 k h3; omega
      · have:k=j+1:=by omega
        subst this; omega
theorem mxT_is:∀ j,j < l.length→(∃ i,i≤j∧mxT l j=l.getD i default)∧∀ i,i≤j→l.getD i default≤mxT l j
  | 0, _ => ⟨⟨0, Nat.le_refl _, rfl⟩, fun i hi => by have : i = 0 := by omega
                                                     subst this; exact Int.le_refl _⟩
  | j+1,h=>by
    obtain ⟨⟨i,hi,e⟩,h2⟩:=mxT_is j (by omega)
    simp only [mxT]
    refine ⟨?_,fun k hk=>?_⟩
    · by_cases h3:l.getD (j+1) default≤mxT l j
      · exact ⟨i,by omega,by omega⟩
      · exact ⟨j+1,Nat.le_refl _,by omega⟩
    · by_cases h3:k≤j
      · have:=h2 k h3; omega
      · have:k=j+1:=by omega
        subst this; omega
theorem mnV_is (h:l≠[]):IsMin l (mnV l):=by
  have hl:0 < l.length:=List.length_pos_iff.2 h
  obtain ⟨⟨i,hi,e⟩,h2⟩:=mnT_is (l:=l) (l.length - 1) (by omega)
  refine ⟨by unfold mnV; rw [e]; exact getD_mem (by omega),fun x hx=>?_⟩
  obtain ⟨k,hk,rfl⟩:=List.mem_iff_getElem.1 hx
  have h3:=h2 k (by omega)
  rw [List.getD_eq_getElem?_getD,List.getElem?_eq_getElem hk] at h3
  exact h3
theorem mxV_is (h:l≠[]):IsMax l (mxV l):=by
  have hl:0 < l.length:=List.length_pos_iff.2 h
  obtain ⟨⟨i,hi,e⟩,h2⟩:=mxT_is (l:=l) (l.length - 1) (by omega)
  refine ⟨by unfold mxV; rw [e]; exact getD_mem (by omega),fun x hx=>?_⟩
  obtain ⟨k,hk,rfl⟩:=List.mem_iff_getElem.1 hx
  have h3:=h2 k (by omega)
  rw [List.getD_eq_getElem?_getD,List.getElem?_eq_getElem hk] at h3
  exact h3
theorem IsMin.uniq (h:IsMin l m) (h2:IsMin l n):m=n:=by have a:=h.2 n h2.1; have b:=h2.2 m h.1; omega
theorem IsMax.uniq (h:IsMax l m) (h2:IsMax l n):m=n:=by have a:=h.2 n h2.1; have b:=h2.2 m h.1; omega
theorem mnV_eq (h:IsMin l m):mnV l=m:=(mnV_is (List.ne_nil_of_mem h.1)).uniq h
theorem mxV_eq (h:IsMax l m):mxV l=m:=(mxV_is (List.ne_nil_of_mem h.1)).uniq h
theorem mnV_end {j:Nat} (h:j+1≤l.length) (h2:¬ ((j+1:Nat):Int) < l.length):mnT l j=mnV l:=by
  have:j=l.length - 1:=by omega
  subst this; rfl
theorem mxV_end {j:Nat} (h:j+1≤l.length) (h2:¬ ((j+1:Nat):Int) < l.length):mxT l j=mxV l:=by
  have:j=l.length - 1:=by omega
  subst this; rfl
end
def alC (C:List Int):Int:=if mnV C < -9223372036854775808∨mxV C > 9223372036854775807 then 4 else 0
def valC (C:List Int):Val :=
  if C=[] then ⟨⟨0,0⟩,false,0⟩
  else if mnV C≤9223372036854775807∧-9223372036854775808≤mxV C then ⟨⟨max (-9223372036854775808) (mnV C),min 9223372036854775807 (mxV C)⟩,true,alC C⟩
  else ⟨⟨0,0⟩,false,alC C⟩
theorem valC_mem {C D:List Int} (h:∀ x,x∈C↔x∈D):valC C=valC D:=by
  by_cases hc:C=[]
  · have hd:D=[]:=List.eq_nil_iff_forall_not_mem.2 fun x hx=>by rw [hc] at h; exact absurd ((h x).2 hx) (by simp)
    rw [hc,hd]
  · have hd:D≠[]:=fun h9=>hc (List.eq_nil_iff_forall_not_mem.2 fun x hx=>by rw [h9] at h; exact absurd ((h x).1 hx) (by simp))
    have a:=mnV_is hc
    have b:=mxV_is hc
    have a2:mnV D=mnV C:=mnV_eq ⟨(h _).1 a.1,fun x hx=>a.2 x ((h x).2 hx)⟩
    have b2:mxV D=mxV C:=mxV_eq ⟨(h _).1 b.1,fun x hx=>b.2 x ((h x).2 hx)⟩
    unfold valC alC
    rw [a2,b2,if_neg hc,if_neg hd]
def Corn.add (c:Corn) (n w:Int):Corn:=if w < 0 then ⟨c.list,true,c.isAbove⟩ else if w > 0 then ⟨c.list,c.isBelow,true⟩ else ⟨c.list++[n],c.isBelow,c.isAbove⟩
def Corn.put (c:Corn) (x:Int):Corn:=c.add (fitN x) (fitO x)
def cornI (o:Int) (a b:Iv):List Int:=[cnX o a.lo b.lo,cnX o a.lo b.hi,cnX o a.hi b.lo,cnX o a.hi b.hi]
def Corn.atN (o:Int) (c:Corn) (a b:Iv) (n:Nat):Corn:=((cornI o a b).take n).foldl Corn.put c
def Corn.all (o:Int) (c:Corn) (a b:Iv):Corn:=(cornI o a b).foldl Corn.put c
abbrev Corn.zero:Corn:=⟨[],false,false⟩
def Corn.low (c:Corn):List Int:=if c.isBelow=true then c.list++[-9223372036854775808] else c.list
def Corn.high (c:Corn):List Int:=if c.isAbove=true then c.list++[9223372036854775807] else c.list
def Corn.al (c:Corn) (al:Int):Int:=if c.isBelow=true∨c.isAbove=true then orI al 4 else al
def Corn.val (c:Corn) (al:Int):Val:=if (c.low.length:Int)=0∨(c.high.length:Int)=0 then ⟨⟨0,0⟩,false,c.al al⟩ else ⟨⟨mnV c.low,mxV c.high⟩,true,c.al al⟩
section
variable {c:Corn} {n w al o:Int} {a b:Iv}
theorem ca_0 (h:w < 0):(⟨c.list,true,c.isAbove⟩:Corn)=Corn.add c n w:=by unfold Corn.add; rw [if_pos h]
theorem ca_1 (h:¬ w < 0) (h2:w > 0):(⟨c.list,c.isBelow,true⟩:Corn)=Corn.add c n w:=by unfold Corn.add; rw [if_neg h,if_pos h2]
theorem ca_2 (h:¬ w < 0) (h2:¬ w > 0):(⟨c.list++[n],c.isBelow,c.isAbove⟩:Corn)=Corn.add c n w:=by unfold Corn.add; rw [if_neg h,if_neg h2]
theorem cad_0 (h:w < 0):c.list=(Corn.add c n w).list∧true=(Corn.add c n w).isBelow∧c.isAbove=(Corn.add c n w).isAbove:=by rw [← ca_0 h]; exact ⟨rfl,rfl,rfl⟩
theorem cad_1 (h:¬ w < 0) (h2:w > 0):c.list=(Corn.add c n w).list∧c.isBelow=(Corn.add c n w).isBelow∧true=(Corn.add c n w).isAbove:=by rw [← ca_1 h h2]; exact ⟨rfl,rfl,rfl⟩
theorem cad_2 (h:¬ w < 0) (h2:¬ w > 0):c.list++[n]=(Corn.add c n w).list∧c.isBelow=(Corn.add c n w).isBelow∧c.isAbove=(Corn.add c n w).isAbove:=by rw [← ca_2 h h2]; exact ⟨rfl,rfl,rfl⟩
theorem add_len:(Corn.add c n w).list.length≤c.list.length+1:=by
  unfold Corn.add; split
  · simp
  · split<;>simp
theorem fold_len:∀ (l:List Int) (c:Corn),(l.foldl Corn.put c).list.length≤c.list.length+l.length
  | [],_=>Nat.le_refl _
  | x::l,c=>by
    rw [List.foldl_cons]
    have h1:=fold_len l (Corn.put c x)
    have h2:(Corn.put c x).list.length≤c.list.length+1:=add_len
    rw [List.length_cons]; omega
theorem atN_len {i:Nat}:(Corn.atN o c a b i).list.length≤c.list.length+4:=by
  have h:=fold_len ((cornI o a b).take i) c
  rw [List.length_take] at h
  have h2:(cornI o a b).length=4:=rfl
  unfold Corn.atN; omega
theorem all_len:(Corn.all o c a b).list.length≤c.list.length+4:=fold_len (cornI o a b) c
theorem low_1 (h:c.isBelow=true):c.list++[-9223372036854775808]=c.low:=by unfold Corn.low; rw [if_pos h]
theorem low_0 (h:c.isBelow=false):c.list=c.low:=by unfold Corn.low; rw [if_neg (by rw [h]; decide)]
theorem high_1 (h:c.isAbove=true):c.list++[9223372036854775807]=c.high:=by unfold Corn.high; rw [if_pos h]
theorem high_0 (h:c.isAbove=false):c.list=c.high:=by unfold Corn.high; rw [if_neg (by rw [h]; decide)]
theorem al_1 (h:c.isBelow=true∨c.isAbove=true):orI al 4=c.al al:=by unfold Corn.al; rw [if_pos h]
theorem al_0 (h:c.isBelow=false∧c.isAbove=false):al=c.al al:=by unfold Corn.al; rw [if_neg (by rw [h.1,h.2]; decide)]
theorem cv_no {L H:List Int} {A:Int} (hL:L=c.low) (hH:H=c.high) (hA:A=c.al al) (h:(L.length:Int)=0∨(H.length:Int)=0):(⟨⟨0,0⟩,false,A⟩:Val)=Corn.val c al:=by
  subst hL hH hA; unfold Corn.val; rw [if_pos h]
theorem cv_yes {L H:List Int} {A:Int} (hL:L=c.low) (hH:H=c.high) (hA:A=c.al al) (h:¬ (L.length:Int)=0∧¬ (H.length:Int)=0):(⟨⟨mnV L,mxV H⟩,true,A⟩:Val)=Corn.val c al:=by
  subst hL hH hA; unfold Corn.val; rw [if_neg (by omega)]
theorem corn_step {i u:Nat} (hi:i < 2) (hu:u < 2):Corn.put (Corn.atN o c a b (2 * i+u)) (cnX o ([a.lo,a.hi].getD i default) ([b.lo,b.hi].getD u default))=Corn.atN o c a b (2 * i+(u+1)):=by
  have h1:i=0∨i=1:=by omega
  have h2:u=0∨u=1:=by omega
  rcases h1 with rfl | rfl<;>rcases h2 with rfl | rfl<;>rfl
theorem corn_st {i u:Nat} (hi:i < 2) (hu:u < 2):(Corn.add (Corn.atN o c a b (2 * i+u)) (fitN (cnX o ([a.lo,a.hi].getD i default) ([b.lo,b.hi].getD u default))) (fitO (cnX o ([a.lo,a.hi].getD i default) ([b.lo,b.hi].getD u default)))).list=(Corn.atN o c a b (2 * i+(u+1))).list ∧
    (Corn.add (Corn.atN o c a b (2 * i+u)) (fitN (cnX o ([a.lo,a.hi].getD i default) ([b.lo,b.hi].getD u default))) (fitO (cnX o ([a.lo,a.hi].getD i default) ([b.lo,b.hi].getD u default)))).isBelow=(Corn.atN o c a b (2 * i+(u+1))).isBelow ∧
    (Corn.add (Corn.atN o c a b (2 * i+u)) (fitN (cnX o ([a.lo,a.hi].getD i default) ([b.lo,b.hi].getD u default))) (fitO (cnX o ([a.lo,a.hi].getD i default) ([b.lo,b.hi].getD u default)))).isAbove=(Corn.atN o c a b (2 * i+(u+1))).isAbove:=by
  rw [← corn_step hi hu]; exact ⟨rfl,rfl,rfl⟩
theorem corn_eq {n m:Nat} (h:n=m):(Corn.atN o c a b n).list=(Corn.atN o c a b m).list∧(Corn.atN o c a b n).isBelow=(Corn.atN o c a b m).isBelow∧(Corn.atN o c a b n).isAbove=(Corn.atN o c a b m).isAbove:=by subst h; exact ⟨rfl,rfl,rfl⟩
theorem corn_fin {n:Nat} (h:n=4):(Corn.atN o c a b n).list=(Corn.all o c a b).list∧(Corn.atN o c a b n).isBelow=(Corn.all o c a b).isBelow∧(Corn.atN o c a b n).isAbove=(Corn.all o c a b).isAbove:=by subst h; exact ⟨rfl,rfl,rfl⟩
end
structure CornP (C:List Int) (c:Corn):Prop where
  sub:∀ x,x∈c.list↔x∈C∧(-9223372036854775808≤x∧x≤9223372036854775807)
  low:c.isBelow=true↔∃ x∈C,x < -9223372036854775808
  high:c.isAbove=true↔∃ x∈C,x > 9223372036854775807
theorem CornP.zero:CornP [] Corn.zero:=⟨by simp [Corn.zero],by simp [Corn.zero],by simp [Corn.zero]⟩
theorem CornP.put {C:List Int} {c:Corn} (h:CornP C c) (x:Int):CornP (C++[x]) (Corn.put c x):=by
  unfold Corn.put Corn.add
  by_cases h1:x > 9223372036854775807
  · obtain ⟨e1,e2,_⟩:=fit_big h1
    rw [e1,e2,if_neg (by decide),if_pos (by decide)]
    refine ⟨fun y=>?_,?_,?_⟩
    · rw [h.sub,List.mem_append,List.mem_singleton]
      constructor
      · exact fun h9=>⟨.inl h9.1,h9.2⟩
      · rintro ⟨h9 | h9,h8⟩
        · exact ⟨h9,h8⟩
        · omega
    · rw [h.low]
      constructor
      · rintro ⟨y,h9,h8⟩; exact ⟨y,by simp [h9],h8⟩
      · rintro ⟨y,h9,h8⟩
        rw [List.mem_append,List.mem_singleton] at h9
        rcases h9 with h9 | h9
        · exact ⟨y,h9,h8⟩
        · omega
    · exact ⟨fun _=>⟨x,by simp,h1⟩,fun _=>rfl⟩
  · by_cases h2:x < -9223372036854775808
    · obtain ⟨e1,e2,_⟩:=fit_low h2
      rw [e1,e2,if_pos (by decide)]
      refine ⟨fun y=>?_,?_,?_⟩
      · rw [h.sub,List.mem_append,List.mem_singleton]
        constructor
        · exact fun h9=>⟨.inl h9.1,h9.2⟩
        · rintro ⟨h9 | h9,h8⟩
          · exact ⟨h9,h8⟩
          · omega
      · exact ⟨fun _=>⟨x,by simp,h2⟩,fun _=>rfl⟩
      · rw [h.high]
        constructor
        · rintro ⟨y,h9,h8⟩; exact ⟨y,by simp [h9],h8⟩
        · rintro ⟨y,h9,h8⟩
          rw [List.mem_append,List.mem_singleton] at h9
          rcases h9 with h9 | h9
          · exact ⟨y,h9,h8⟩
          · omega
    · obtain ⟨e1,e2,_⟩:=fit_in (x:=x) (by unfold Fit; omega)
      rw [e1,e2,if_neg (by decide),if_neg (by decide)]
      refine ⟨fun y=>?_,?_,?_⟩
      · rw [List.mem_append,h.sub,List.mem_append,List.mem_singleton]
        constructor
        · rintro (h9 | h9)
          · exact ⟨.inl h9.1,h9.2⟩
          · exact ⟨.inr h9,by omega⟩
        · rintro ⟨h9 | h9,h8⟩
          · exact .inl ⟨h9,h8⟩
          · exact .inr h9
      · rw [h.low]
        constructor
        · rintro ⟨y,h9,h8⟩; exact ⟨y,by simp [h9],h8⟩
        · rintro ⟨y,h9,h8⟩
          rw [List.mem_append,List.mem_singleton] at h9
          rcases h9 with h9 | h9
          · exact ⟨y,h9,h8⟩
          · omega
      · rw [h.high]
        constructor
        · rintro ⟨y,h9,h8⟩; exact ⟨y,by simp [h9],h8⟩
        · rintro ⟨y,h9,h8⟩
          rw [List.mem_append,List.mem_singleton] at h9
          rcases h9 with h9 | h9
          · exact ⟨y,h9,h8⟩
          · omega
theorem CornP.fold {D:List Int}:∀ {C:List Int} {c:Corn},CornP C c→CornP (C++D) (D.foldl Corn.put c):=by
  induction D with
  | nil=>intro C c h; rw [List.append_nil]; exact h
  | cons x D ih =>
    intro C c h
    rw [List.foldl_cons]
    have:=ih (h.put x)
    rwa [List.append_assoc,List.singleton_append] at this
def alJ (v:Val) (al:Int):Int:=if v.alarms=0 then al else orI al 4
theorem corn_val {C:List Int} {c:Corn} (h:CornP C c) (al:Int):c.val al=⟨(valC C).iv,(valC C).live,alJ (valC C) al⟩:=by
  by_cases hc:C=[]
  · subst hc
    have h1:c.list=[]:=List.eq_nil_iff_forall_not_mem.2 fun x hx=>by have:=(h.sub x).1 hx; simp at this
    have h2:c.isBelow=false:=by
      cases e:c.isBelow with
      | false=>rfl
      | true=>have:=h.low.1 e; simp at this
    have h3:c.isAbove=false:=by
      cases e:c.isAbove with
      | false=>rfl
      | true=>have:=h.high.1 e; simp at this
    unfold Corn.val Corn.low Corn.high Corn.al
    rw [h1,h2,h3]; rfl
  · have a:=mnV_is hc
    have b:=mxV_is hc
    have hb:c.isBelow=true↔mnV C < -9223372036854775808:=by
      rw [h.low]
      exact ⟨fun ⟨x,h1,h2⟩=>by have:=a.2 x h1; omega,fun h1=>⟨_,a.1,h1⟩⟩
    have hab:c.isAbove=true↔mxV C > 9223372036854775807:=by
      rw [h.high]
      exact ⟨fun ⟨x,h1,h2⟩=>by have:=b.2 x h1; omega,fun h1=>⟨_,b.1,h1⟩⟩
    have hal:c.al al=alJ (valC C) al:=by
      have e:(valC C).alarms=alC C:=by unfold valC; rw [if_neg hc]; split<;>rfl
      unfold Corn.al alJ; rw [e]; unfold alC
      by_cases h9:mnV C < -9223372036854775808∨mxV C > 9223372036854775807
      · rw [if_pos (by rw [hb,hab]; exact h9),if_pos h9,if_neg (by decide)]
      · rw [if_neg (by rw [hb,hab]; exact h9),if_neg h9,if_pos rfl]
    have hlow:∀ x,x∈c.low↔x∈c.list∨(mnV C < -9223372036854775808∧x=-9223372036854775808):=fun x=>by
      unfold Corn.low
      split
      · rename_i h9; rw [List.mem_append,List.mem_singleton]; rw [hb] at h9; simp [h9]
      · rename_i h9; rw [hb] at h9; simp [h9]
    have hhigh:∀ x,x∈c.high↔x∈c.list∨(mxV C > 9223372036854775807∧x=9223372036854775807):=fun x=>by
      unfold Corn.high
      split
      · rename_i h9; rw [List.mem_append,List.mem_singleton]; rw [hab] at h9; simp [h9]
      · rename_i h9; rw [hab] at h9; simp [h9]
    by_cases hl:mnV C≤9223372036854775807∧-9223372036854775808≤mxV C
    · -- something is left
      have m1:IsMin c.low (max (-9223372036854775808) (mnV C)):=by
        constructor
        · rw [hlow]
          by_cases h9:mnV C < -9223372036854775808
          · right; exact ⟨h9,by omega⟩
          · left; rw [h.sub]
            have e:max (-9223372036854775808) (mnV C)=mnV C:=by omega
            rw [e]; exact ⟨a.1,by omega⟩
        · intro x hx
          rw [hlow,h.sub] at hx
          rcases hx with hx | hx
          · have:=a.2 x hx.1; omega
          · omega
      have m2:IsMax c.high (min 9223372036854775807 (mxV C)):=by
        constructor
        · rw [hhigh]
          by_cases h9:mxV C > 9223372036854775807
          · right; exact ⟨h9,by omega⟩
          · left; rw [h.sub]
            have e:min 9223372036854775807 (mxV C)=mxV C:=by omega
            rw [e]; exact ⟨b.1,by omega⟩
        · intro x hx
          rw [hhigh,h.sub] at hx
          rcases hx with hx | hx
          · have:=b.2 x hx.1; omega
          · omega
      have n1:0 < c.low.length:=List.length_pos_of_mem m1.1
      have n2:0 < c.high.length:=List.length_pos_of_mem m2.1
      have ev:valC C=⟨⟨max (-9223372036854775808) (mnV C),min 9223372036854775807 (mxV C)⟩,true,alC C⟩:=by unfold valC; rw [if_neg hc,if_pos hl]
      rw [← hal]
      unfold Corn.val
      rw [if_neg (by omega),mnV_eq m1,mxV_eq m2,ev]
    · have ev:valC C=⟨⟨0,0⟩,false,alC C⟩:=by unfold valC; rw [if_neg hc,if_neg hl]
      rw [← hal]
      unfold Corn.val
      have hno:∀ x,x ∉ c.list:=fun x hx=>by
        have h9:=(h.sub x).1 hx
        have:=a.2 x h9.1
        have:=b.2 x h9.1
        omega
      have h9:(c.low.length:Int)=0∨(c.high.length:Int)=0:=by
        by_cases h8:mnV C≤9223372036854775807
        · right
          have:c.high=[]:=List.eq_nil_iff_forall_not_mem.2 fun x hx=>by
            rw [hhigh] at hx
            rcases hx with hx | hx
            · exact hno x hx
            · omega
          rw [this]; rfl
        · left
          have:c.low=[]:=List.eq_nil_iff_forall_not_mem.2 fun x hx=>by
            rw [hlow] at hx
            rcases hx with hx | hx
            · exact hno x hx
            · omega
          rw [this]; rfl
      rw [if_pos h9,ev]
def lexL (n o:List Int) (i k:Nat):Prop:=o.getD i default < o.getD k default∨(o.getD i default=o.getD k default∧n.getD i default < n.getD k default)
instance (n o:List Int) (i k:Nat):Decidable (lexL n o i k):=by unfold lexL; infer_instance
def lexG (n o:List Int) (i k:Nat):Prop:=o.getD i default > o.getD k default∨(o.getD i default=o.getD k default∧n.getD i default > n.getD k default)
instance (n o:List Int) (i k:Nat):Decidable (lexG n o i k):=by unfold lexG; infer_instance
def loX (n o:List Int):Nat→Nat
  | 0=>0
  | j+1=>if lexL n o j (loX n o j) then j else loX n o j
def hiX (n o:List Int):Nat→Nat
  | 0=>0
  | j+1=>if lexG n o j (hiX n o j) then j else hiX n o j
def alX (o:List Int):Nat→Int
  | 0=>0
  | j+1=>if o.getD j default=0 then alX o j else 4
def endV (n o:List Int):Val :=
  if (n.length:Int)=0 then ⟨⟨0,0⟩,false,0⟩
  else if o.getD (loX n o n.length) default > 0∨o.getD (hiX n o n.length) default < 0 then ⟨⟨0,0⟩,false,alX o n.length⟩
  else ⟨⟨if o.getD (loX n o n.length) default < 0 then -9223372036854775808 else n.getD (loX n o n.length) default,if o.getD (hiX n o n.length) default > 0 then 9223372036854775807 else n.getD (hiX n o n.length) default⟩,true,alX o n.length⟩
section
variable {n o:List Int} {j:Nat}
theorem lo_1 (h:o.getD j default < o.getD (loX n o j) default∨(o.getD j default=o.getD (loX n o j) default∧n.getD j default < n.getD (loX n o j) default)):(j:Int)=((loX n o (j+1):Nat):Int):=by
  simp only [loX]; rw [if_pos (show lexL n o j (loX n o j) from h)]
theorem lo_0 (h:¬ o.getD j default < o.getD (loX n o j) default∧(¬ o.getD j default=o.getD (loX n o j) default∨¬ n.getD j default < n.getD (loX n o j) default)):((loX n o j:Nat):Int)=((loX n o (j+1):Nat):Int):=by
  simp only [loX]; rw [if_neg]; unfold lexL; omega
theorem hi_1 (h:o.getD j default > o.getD (hiX n o j) default∨(o.getD j default=o.getD (hiX n o j) default∧n.getD j default > n.getD (hiX n o j) default)):(j:Int)=((hiX n o (j+1):Nat):Int):=by
  simp only [hiX]; rw [if_pos (show lexG n o j (hiX n o j) from h)]
theorem hi_0 (h:¬ o.getD j default > o.getD (hiX n o j) default∧(¬ o.getD j default=o.getD (hiX n o j) default∨¬ n.getD j default > n.getD (hiX n o j) default)):((hiX n o j:Nat):Int)=((hiX n o (j+1):Nat):Int):=by
  simp only [hiX]; rw [if_neg]; unfold lexG; omega
theorem alX_1 (h:¬ o.getD j default=0):4=alX o (j+1):=by simp only [alX]; rw [if_neg h]
theorem alX_0 (h:o.getD j default=0):alX o j=alX o (j+1):=by simp only [alX]; rw [if_pos h]
theorem loX_lt:∀ j,j≤n.length→0 < n.length→loX n o j < n.length
  | 0,_,h=>h
  | j+1,h1,h=>by
    simp only [loX]; split
    · omega
    · exact loX_lt j (by omega) h
theorem hiX_lt:∀ j,j≤n.length→0 < n.length→hiX n o j < n.length
  | 0,_,h=>h
  | j+1,h1,h=>by
    simp only [hiX]; split
    · omega
    · exact hiX_lt j (by omega) h
theorem loX_is:∀ j i,i < j→¬ lexL n o i (loX n o j)
  | j+1,i,h=>by
    simp only [loX]
    split
    · rename_i h1
      by_cases e:i=j
      · subst e; unfold lexL; omega
      · have h2:=loX_is j i (by omega)
        unfold lexL at *; omega
    · rename_i h1
      by_cases e:i=j
      · subst e; exact h1
      · exact loX_is j i (by omega)
theorem hiX_is:∀ j i,i < j→¬ lexG n o i (hiX n o j)
  | j+1,i,h=>by
    simp only [hiX]
    split
    · rename_i h1
      by_cases e:i=j
      · subst e; unfold lexG; omega
      · have h2:=hiX_is j i (by omega)
        unfold lexG at *; omega
    · rename_i h1
      by_cases e:i=j
      · subst e; exact h1
      · exact hiX_is j i (by omega)
theorem alX_is:∀ j,(alX o j=0∨alX o j=4)∧(alX o j=4↔∃ i,i < j∧¬ o.getD i default=0)
  | 0=>⟨.inl rfl,⟨fun h=>by simp [alX] at h,fun ⟨i,h,_⟩=>absurd h (by omega)⟩⟩
  | j+1=>by
    obtain ⟨h1,h2⟩:=alX_is j
    simp only [alX]
    split
    · rename_i h3
      refine ⟨h1,h2.trans ⟨fun ⟨i,a,b⟩=>⟨i,by omega,b⟩,fun ⟨i,a,b⟩=>⟨i,?_,b⟩⟩⟩
      by_cases e:i=j
      · subst e; exact absurd h3 b
      · omega
    · rename_i h3
      exact ⟨.inr rfl,⟨fun _=>⟨j,by omega,h3⟩,fun _=>rfl⟩⟩
theorem end_dead {lo hi:Nat} (h0:¬ (n.length:Int)=0) (e1:lo=loX n o n.length) (e2:hi=hiX n o n.length) (h:o.getD lo default > 0∨o.getD hi default < 0) {al:Int} (ha:al=alX o n.length):(⟨⟨0,0⟩,false,al⟩:Val)=endV n o:=by
  subst e1 e2 ha; unfold endV; rw [if_neg h0,if_pos h]
theorem end_live {lo hi:Nat} (h0:¬ (n.length:Int)=0) (e1:lo=loX n o n.length) (e2:hi=hiX n o n.length) (h:¬ o.getD lo default > 0∧¬ o.getD hi default < 0) {al x y:Int} (ha:al=alX o n.length)
    (hx:x=if o.getD lo default < 0 then -9223372036854775808 else n.getD lo default) (hy:y=if o.getD hi default > 0 then 9223372036854775807 else n.getD hi default):(⟨⟨x,y⟩,true,al⟩:Val)=endV n o:=by
  subst e1 e2 ha hx hy; unfold endV; rw [if_neg h0,if_neg (show ¬ (o.getD (loX n o n.length) default > 0∨o.getD (hiX n o n.length) default < 0) from fun h9=>h9.elim h.1 h.2)]
end
theorem getD_map9 {f:Int→Int} {C:List Int} {i:Nat} (h:i < C.length):(C.map f).getD i default=f (C.getD i default):=by
  rw [List.getD_eq_getElem?_getD,List.getElem?_map,List.getElem?_eq_getElem h,List.getD_eq_getElem?_getD,List.getElem?_eq_getElem h]; rfl
theorem fitO_cases (x:Int):(fitO x=1∧x > 9223372036854775807∧fitN x=0)∨(fitO x=-1∧x < -9223372036854775808∧fitN x=0)∨(fitO x=0∧-9223372036854775808≤x∧x≤9223372036854775807∧fitN x=x):=by
  by_cases h1:x > 9223372036854775807
  · have:=fit_big h1; exact .inl ⟨this.2.1,h1,this.1⟩
  · by_cases h2:x < -9223372036854775808
    · have:=fit_low h2; exact .inr (.inl ⟨this.2.1,h2,this.1⟩)
    · have:=fit_in (x:=x) (by unfold Fit; omega); exact .inr (.inr ⟨this.2.1,by omega,by omega,this.1⟩)
theorem end_val (C:List Int):endV (C.map fitN) (C.map fitO)=valC C:=by
  by_cases hc:C=[]
  · subst hc; rfl
  · have hl:0 < C.length:=List.length_pos_iff.2 hc
    have a:=mnV_is hc
    have b:=mxV_is hc
    obtain ⟨ia,hia,ea⟩:=List.mem_iff_getElem.1 a.1
    obtain ⟨ib,hib,eb⟩:=List.mem_iff_getElem.1 b.1
    have gD:∀ i (h:i < C.length),C.getD i default=C[i]:=fun i h=>by rw [List.getD_eq_getElem?_getD,List.getElem?_eq_getElem h]; rfl
    have hlo:=loX_lt (n:=C.map fitN) (o:=C.map fitO) C.length (by simp) (by simpa using hl)
    have hhi:=hiX_lt (n:=C.map fitN) (o:=C.map fitO) C.length (by simp) (by simpa using hl)
    have l1:=loX_is (n:=C.map fitN) (o:=C.map fitO) C.length ia hia
    have l2:=hiX_is (n:=C.map fitN) (o:=C.map fitO) C.length ib hib
    have l3:=alX_is (o:=C.map fitO) C.length
    rw [List.length_map] at hlo hhi
    unfold endV
    rw [List.length_map,if_neg (by omega)]
    generalize loX (C.map fitN) (C.map fitO) C.length=lo at *
    generalize hiX (C.map fitN) (C.map fitO) C.length=hi at *
    unfold lexL at l1
    unfold lexG at l2
    rw [getD_map9 hia,getD_map9 hlo,getD_map9 hia,getD_map9 hlo,gD ia hia,ea] at l1
    rw [getD_map9 hib,getD_map9 hhi,getD_map9 hib,getD_map9 hhi,gD ib hib,eb] at l2
    rw [getD_map9 hlo,getD_map9 hhi,getD_map9 hlo,getD_map9 hhi]
    have x1:=a.2 _ (getD_mem (a:=C) hlo)
    have x2:=b.2 _ (getD_mem (a:=C) hhi)
    have x3:=a.2 _ b.1
    have c1:=fitO_cases (C.getD lo default)
    have c2:=fitO_cases (C.getD hi default)
    have c3:=fitO_cases (mnV C)
    have c4:=fitO_cases (mxV C)
    have hal:alX (C.map fitO) C.length=alC C:=by
      unfold alC
      split
      · rename_i h9
        rw [l3.2]
        rcases h9 with h9 | h9
        · exact ⟨ia,hia,by rw [getD_map9 hia,gD ia hia,ea]; omega⟩
        · exact ⟨ib,hib,by rw [getD_map9 hib,gD ib hib,eb]; omega⟩
      · rename_i h9
        rcases l3.1 with h8 | h8
        · exact h8
        · obtain ⟨i,hi9,h7⟩:=l3.2.1 h8
          rw [getD_map9 hi9] at h7
          have y1:=a.2 _ (getD_mem (a:=C) hi9)
          have y2:=b.2 _ (getD_mem (a:=C) hi9)
          have y3:=fitO_cases (C.getD i default)
          omega
    rw [hal]
    unfold valC
    rw [if_neg hc]
    generalize C.getD lo default=xl at *
    generalize C.getD hi default=xh at *
    generalize mnV C=mn at *
    generalize mxV C=mx at *
    generalize fitO xl=ol at *
    generalize fitO xh=oh at *
    generalize fitN xl=nl at *
    generalize fitN xh=nh at *
    generalize fitO mn=om at *
    generalize fitO mx=ox at *
    generalize fitN mn=nm at *
    generalize fitN mx=nx at *
    by_cases h9:mn≤9223372036854775807∧-9223372036854775808≤mx
    · rw [if_pos h9,if_neg (by omega)]
      congr 2
      · split<;>omega
      · split<;>omega
    · rw [if_neg h9,if_pos (by omega)]
def cornS (o:Int) (a b:Iv):List Int:=[cnX o a.lo b.lo,cnX o a.hi b.lo,cnX o a.lo b.hi,cnX o a.hi b.hi]
def boxL (o:Int) (a:Iv) (l:List Iv) (i u:Nat):List Int:=(l.take i).flatMap (cornS o a)++(cornS o a (l.getD i default)).take u
section
variable {o:Int} {a:Iv} {l:List Iv} {i u:Nat}
theorem box_n (hu:u < 4):(boxL o a l i u).map fitN++[fitN (cnX o ([a.lo,a.hi].getD (Int.tmod (u:Int) 2).toNat default) ([(l.getD i default).lo,(l.getD i default).hi].getD (Int.tdiv (u:Int) 2).toNat default))]=(boxL o a l i (u+1)).map fitN:=by
  have h:u=0∨u=1∨u=2∨u=3:=by omega
  unfold boxL
  rw [List.map_append,List.map_append,List.append_assoc]
  congr 1
  rcases h with rfl | rfl | rfl | rfl<;>rfl
theorem box_o (hu:u < 4):(boxL o a l i u).map fitO++[fitO (cnX o ([a.lo,a.hi].getD (Int.tmod (u:Int) 2).toNat default) ([(l.getD i default).lo,(l.getD i default).hi].getD (Int.tdiv (u:Int) 2).toNat default))]=(boxL o a l i (u+1)).map fitO:=by
  have h:u=0∨u=1∨u=2∨u=3:=by omega
  unfold boxL
  rw [List.map_append,List.map_append,List.append_assoc]
  congr 1
  rcases h with rfl | rfl | rfl | rfl<;>rfl
theorem box_next (hi:i < l.length):boxL o a l i 4=boxL o a l (i+1) 0:=by
  have h1:l.take (i+1)=l.take i++[l.getD i default]:=by
    rw [List.take_add_one,List.getElem?_eq_getElem hi,List.getD_eq_getElem?_getD,List.getElem?_eq_getElem hi]; rfl
  unfold boxL
  rw [h1,List.flatMap_append]
  simp [cornS]
theorem box_zero:boxL o a l 0 0=[]:=by simp [boxL]
theorem box_end (hi:l.length≤i):boxL o a l i 0=l.flatMap (cornS o a):=by
  unfold boxL
  rw [List.take_of_length_le hi]; simp
theorem box_len:(boxL o a l i u).length≤4 * i+4:=by
  unfold boxL
  rw [List.length_append,List.length_take]
  have h1:((l.take i).flatMap (cornS o a)).length=4 * (l.take i).length:=by
    generalize l.take i=r
    induction r with
    | nil=>rfl
    | cons x r ih=>rw [List.flatMap_cons,List.length_append,ih,List.length_cons]; simp [cornS]; omega
  rw [h1,List.length_take]
  have:(cornS o a (l.getD i default)).length=4:=rfl
  omega
theorem two_fit {x y:Int} (hx:Fit x) (hy:Fit y) {k:Nat} (hk:k < 2):Fit ([x,y].getD k default):=by
  have h:k=0∨k=1:=by omega
  rcases h with rfl | rfl
  · exact hx
  · exact hy
end
def opV (o:Int) (a b:Iv):Val:=if Iv.ok a=true∧Iv.ok b=true then valC (cornI o a b) else ⟨⟨0,0⟩,false,0⟩
def partsV (b:Iv):List Iv:=(if b.lo < 0 then [⟨b.lo,min b.hi (-1)⟩] else [])++if b.hi > 0 then [⟨max b.lo 1,b.hi⟩] else []
abbrev quoC (a b:Iv):Val:=valC ((partsV b).flatMap (cornS 47 a))
def quoV (a b:Iv):Val:=if Iv.ok a=true∧Iv.ok b=true then ⟨(quoC a b).iv,(quoC a b).live,if Iv.has b 0=true then orI (quoC a b).alarms 1 else (quoC a b).alarms⟩ else ⟨⟨0,0⟩,false,0⟩
def divA (b:Iv):Int:=if Iv.has b 0=true then 1 else 0
abbrev remM (b:Iv):Int:=IntKind.wrap .i64 (IntKind.wrap .u64 (max (absN b.lo) (absN b.hi) - 1))
def remI (a b:Iv):Iv:=if a.lo=a.hi∧b.lo=b.hi then ⟨remN a.lo b.lo,remN a.lo b.lo⟩ else ⟨if a.lo < 0 then max (IntKind.wrap .i64 (0 - remM b)) a.lo else 0,if a.hi > 0 then min (remM b) a.hi else 0⟩
def remV (a b:Iv):Val:=if Iv.ok a=true∧Iv.ok b=true then (if ((partsV b).length:Int)=0 then ⟨⟨0,0⟩,false,divA b⟩ else ⟨remI a b,true,divA b⟩) else ⟨⟨0,0⟩,false,0⟩
section
variable {o al:Int} {a b:Iv}
theorem alJ_zero {C:List Int}:alJ (valC C) 0=(valC C).alarms:=by
  unfold alJ
  have h:(valC C).alarms=0∨(valC C).alarms=4:=by
    unfold valC alC; repeat' split
    all_goals first | exact .inl rfl | exact .inr rfl
  rcases h with h | h<;>rw [h]<;>decide
theorem op_no (h:¬ (Iv.ok a=true∧Iv.ok b=true)):(⟨⟨0,0⟩,false,0⟩:Val)=opV o a b:=by unfold opV; rw [if_neg h]
theorem op_imp (h:Iv.ok a=true∧Iv.ok b=true):Corn.val (Corn.all o Corn.zero a b) 0=opV o a b:=by
  unfold opV; rw [if_pos h]
  have h1:=corn_val (CornP.fold (D:=cornI o a b) CornP.zero) 0
  rw [List.nil_append,alJ_zero] at h1
  exact h1
theorem op_spec (h:Iv.ok a=true∧Iv.ok b=true):valC ([b].flatMap (cornS o a))=opV o a b:=by
  unfold opV; rw [if_pos h]
  refine valC_mem fun x=>?_
  simp [cornS,cornI]
  constructor
  · rintro (h | h | h | h)<;>simp [h]
  · rintro (h | h | h | h)<;>simp [h]
theorem quo_no (h:¬ (Iv.ok a=true∧Iv.ok b=true)):(⟨⟨0,0⟩,false,0⟩:Val)=quoV a b:=by unfold quoV; rw [if_neg h]
theorem quo_1 (h:Iv.ok a=true∧Iv.ok b=true) (h2:Iv.has b 0=true):(⟨(quoC a b).iv,(quoC a b).live,orI (quoC a b).alarms 1⟩:Val)=quoV a b:=by unfold quoV; rw [if_pos h,if_pos h2]
theorem quo_0 (h:Iv.ok a=true∧Iv.ok b=true) (h2:Iv.has b 0=false):quoC a b=quoV a b:=by unfold quoV; rw [if_pos h,if_neg (by rw [h2]; decide)]
def quoF (a:Iv) (l:List Iv) (j:Nat):Corn:=(l.take j).foldl (fun c p=>Corn.all 47 c a p) Corn.zero
theorem quoF_step {l:List Iv} {j:Nat} (h:j < l.length):Corn.all 47 (quoF a l j) a (l.getD j default)=quoF a l (j+1):=by
  unfold quoF
  rw [List.take_add_one,List.getElem?_eq_getElem h,List.foldl_append,List.getD_eq_getElem?_getD,List.getElem?_eq_getElem h]; rfl
theorem quoF_P {l:List Iv}:∀ (C:List Int) (c:Corn),CornP C c→CornP (C++l.flatMap (cornI 47 a)) (l.foldl (fun c p=>Corn.all 47 c a p) c):=by
  induction l with
  | nil=>intro C c h; rw [List.flatMap_nil,List.append_nil]; exact h
  | cons x l ih =>
    intro C c h
    rw [List.flatMap_cons,List.foldl_cons,← List.append_assoc]
    exact ih _ _ h.fold
theorem quo_imp (h:Iv.ok a=true∧Iv.ok b=true) {j:Nat} (hj:(partsV b).length≤j):Corn.val (quoF a (partsV b) j) (divA b)=quoV a b:=by
  have h0:quoF a (partsV b) j=(partsV b).foldl (fun c p=>Corn.all 47 c a p) Corn.zero:=by unfold quoF; rw [List.take_of_length_le hj]
  have h1:=corn_val (quoF_P (a:=a) (l:=partsV b) [] Corn.zero CornP.zero) (divA b)
  rw [← h0,List.nil_append] at h1
  have h2:valC ((partsV b).flatMap (cornI 47 a))=quoC a b:=by
    unfold quoC
    refine valC_mem fun x=>?_
    simp only [List.mem_flatMap,cornI,cornS,List.mem_cons,List.not_mem_nil,or_false]
    constructor
    · rintro ⟨p,hp,hx⟩; refine ⟨p,hp,?_⟩; rcases hx with hx | hx | hx | hx<;>simp [hx]
    · rintro ⟨p,hp,hx⟩; refine ⟨p,hp,?_⟩; rcases hx with hx | hx | hx | hx<;>simp [hx]
  rw [h1,h2]
  unfold quoV; rw [if_pos h]
  congr 1
  unfold alJ divA
  have h3:(quoC a b).alarms=0∨(quoC a b).alarms=4:=by
    unfold quoC valC alC; repeat' split
    all_goals first | exact .inl rfl | exact .inr rfl
  rcases h3 with h3 | h3<;>rw [h3]<;>cases Iv.has b 0<;>decide
theorem rem_no9 (h:¬ (Iv.ok a=true∧Iv.ok b=true)):(⟨⟨0,0⟩,false,0⟩:Val)=remV a b:=by unfold remV; rw [if_neg h]
theorem rem_none (h:Iv.ok a=true∧Iv.ok b=true) (h2:((partsV b).length:Int)=0):(⟨⟨0,0⟩,false,divA b⟩:Val)=remV a b:=by unfold remV; rw [if_pos h,if_pos h2]
theorem rem_some (h:Iv.ok a=true∧Iv.ok b=true) (h2:¬ ((partsV b).length:Int)=0) {v:Iv} (hv:v=remI a b):(⟨v,true,divA b⟩:Val)=remV a b:=by subst hv; unfold remV; rw [if_pos h,if_neg h2]
theorem rem_one (h:a.lo=a.hi∧b.lo=b.hi):(⟨remN a.lo b.lo,remN a.lo b.lo⟩:Iv)=remI a b:=by unfold remI; rw [if_pos h]
theorem rem_two (h:¬ a.lo=a.hi∨¬ b.lo=b.hi) {x y:Int} (hx:x=if a.lo < 0 then max (IntKind.wrap .i64 (0 - remM b)) a.lo else 0) (hy:y=if a.hi > 0 then min (remM b) a.hi else 0):(⟨x,y⟩:Iv)=remI a b:=by
  subst hx hy; unfold remI; rw [if_neg (show ¬ (a.lo=a.hi∧b.lo=b.hi) from fun h9=>h.elim (fun h8=>h8 h9.1) fun h8=>h8 h9.2)]
theorem div_1 (h:Iv.has b 0=true):1=divA b:=by unfold divA; rw [if_pos h]
theorem div_0 (h:Iv.has b 0=false):0=divA b:=by unfold divA; rw [if_neg (by rw [h]; decide)]
theorem parts_len:(partsV b).length≤2:=by unfold partsV; rw [List.length_append]; split<;>split<;>simp
theorem parts_fit (h:FitI b):∀ x∈partsV b,FitI x:=by
  unfold FitI Fit at *
  intro x hx
  unfold partsV at hx
  rw [List.mem_append] at hx
  rcases hx with hx | hx
  · split at hx
    · rw [List.mem_singleton] at hx; subst hx; simp only; omega
    · simp at hx
  · split at hx
    · rw [List.mem_singleton] at hx; subst hx; simp only; omega
    · simp at hx
theorem meet_neg (hb:b.lo≤b.hi) (hf:FitI b):Iv.meets b ⟨-9223372036854775808,-1⟩=decide (b.lo < 0)∧(b.lo < 0→Iv.meetOk b ⟨-9223372036854775808,-1⟩=⟨b.lo,min b.hi (-1)⟩):=by
  unfold FitI Fit at hf
  have h1:Iv.meets b ⟨-9223372036854775808,-1⟩=decide (b.lo < 0):=by
    unfold Iv.meets Iv.ok Iv.meet
    rw [decide_eq_true hb]
    by_cases h:b.lo < 0
    · rw [decide_eq_true h,decide_eq_true (by simp only; omega),decide_eq_true (by simp only; omega)]; rfl
    · rw [decide_eq_false h,decide_eq_false (p:=max b.lo (-9223372036854775808)≤min b.hi (-1)) (by omega)]; simp
  refine ⟨h1,fun h=>?_⟩
  unfold Iv.meetOk; rw [if_pos (by rw [h1]; exact decide_eq_true h)]
  unfold Iv.meet
  rw [show max b.lo (-9223372036854775808)=b.lo by omega]
theorem meet_pos (hb:b.lo≤b.hi) (hf:FitI b):Iv.meets b ⟨1,9223372036854775807⟩=decide (b.hi > 0)∧(b.hi > 0→Iv.meetOk b ⟨1,9223372036854775807⟩=⟨max b.lo 1,b.hi⟩):=by
  unfold FitI Fit at hf
  have h1:Iv.meets b ⟨1,9223372036854775807⟩=decide (b.hi > 0):=by
    unfold Iv.meets Iv.ok Iv.meet
    rw [decide_eq_true hb]
    by_cases h:b.hi > 0
    · rw [decide_eq_true h,decide_eq_true (by simp only; omega),decide_eq_true (by simp only; omega)]; rfl
    · rw [decide_eq_false h,decide_eq_false (p:=max b.lo 1≤min b.hi 9223372036854775807) (by omega)]; simp
  refine ⟨h1,fun h=>?_⟩
  unfold Iv.meetOk; rw [if_pos (by rw [h1]; exact decide_eq_true h)]
  unfold Iv.meet
  rw [show min b.hi 9223372036854775807=b.hi by omega]
theorem parts_11 (h1:b.lo < 0) (h2:b.hi > 0):[(⟨b.lo,min b.hi (-1)⟩:Iv),⟨max b.lo 1,b.hi⟩]=partsV b:=by unfold partsV; rw [if_pos h1,if_pos h2]; rfl
theorem parts_10 (h1:b.lo < 0) (h2:¬ b.hi > 0):[(⟨b.lo,min b.hi (-1)⟩:Iv)]=partsV b:=by unfold partsV; rw [if_pos h1,if_neg h2]; rfl
theorem parts_01 (h1:¬ b.lo < 0) (h2:b.hi > 0):[(⟨max b.lo 1,b.hi⟩:Iv)]=partsV b:=by unfold partsV; rw [if_neg h1,if_pos h2]; rfl
theorem parts_00 (h1:¬ b.lo < 0) (h2:¬ b.hi > 0):([]:List Iv)=partsV b:=by unfold partsV; rw [if_neg h1,if_neg h2]; rfl
theorem ok_no2 (h:Iv.ok a=false∨Iv.ok b=false):¬ (Iv.ok a=true∧Iv.ok b=true):=fun h9=>by rw [h9.1,h9.2] at h; exact absurd h (by decide)
theorem fit_zero:FitI (Iv.mk 0 0):=by unfold FitI Fit; simp
theorem dv_11 (hb:b.lo≤b.hi) (hf:FitI b) (c0:Iv.meets b ⟨-9223372036854775808,-1⟩=true) (c1:Iv.meets b ⟨1,9223372036854775807⟩=true):[Iv.meetOk b ⟨-9223372036854775808,-1⟩,Iv.meetOk b ⟨1,9223372036854775807⟩]=partsV b:=by
  have h1:=meet_neg hb hf
  have h2:=meet_pos hb hf
  rw [h1.1] at c0; rw [h2.1] at c1
  have c0:=of_decide_eq_true c0
  have c1:=of_decide_eq_true c1
  rw [h1.2 c0,h2.2 c1]; exact parts_11 c0 c1
theorem dv_10 (hb:b.lo≤b.hi) (hf:FitI b) (c0:Iv.meets b ⟨-9223372036854775808,-1⟩=true) (c1:Iv.meets b ⟨1,9223372036854775807⟩=false):[Iv.meetOk b ⟨-9223372036854775808,-1⟩]=partsV b:=by
  have h1:=meet_neg hb hf
  have h2:=meet_pos hb hf
  rw [h1.1] at c0; rw [h2.1] at c1
  have c0:=of_decide_eq_true c0
  have c1:=of_decide_eq_false c1
  rw [h1.2 c0]; exact parts_10 c0 c1
theorem dv_01 (hb:b.lo≤b.hi) (hf:FitI b) (c0:Iv.meets b ⟨-9223372036854775808,-1⟩=false) (c1:Iv.meets b ⟨1,9223372036854775807⟩=true):[Iv.meetOk b ⟨1,9223372036854775807⟩]=partsV b:=by
  have h1:=meet_neg hb hf
  have h2:=meet_pos hb hf
  rw [h1.1] at c0; rw [h2.1] at c1
  have c0:=of_decide_eq_false c0
  have c1:=of_decide_eq_true c1
  rw [h2.2 c1]; exact parts_01 c0 c1
theorem dv_00 (hb:b.lo≤b.hi) (hf:FitI b) (c0:Iv.meets b ⟨-9223372036854775808,-1⟩=false) (c1:Iv.meets b ⟨1,9223372036854775807⟩=false):[]=partsV b:=by
  have h1:=meet_neg hb hf
  have h2:=meet_pos hb hf
  rw [h1.1] at c0; rw [h2.1] at c1
  exact parts_00 (of_decide_eq_false c0) (of_decide_eq_false c1)
theorem quoF_st {l:List Iv} {j:Nat} (h:j < l.length):(Corn.all 47 (quoF a l j) a (l.getD j default)).list=(quoF a l (j+1)).list∧(Corn.all 47 (quoF a l j) a (l.getD j default)).isBelow=(quoF a l (j+1)).isBelow∧(Corn.all 47 (quoF a l j) a (l.getD j default)).isAbove=(quoF a l (j+1)).isAbove:=by
  rw [quoF_step h]; exact ⟨rfl,rfl,rfl⟩
theorem quoF_len {l:List Iv}:∀ j,j≤l.length→(quoF a l j).list.length≤4 * j
  | 0,_=>by simp [quoF]
  | j+1,h=>by
    rw [← quoF_step (by omega)]
    have h1:=quoF_len (l:=l) j (by omega)
    have h2:=all_len (o:=47) (c:=quoF a l j) (a:=a) (b:=l.getD j default)
    omega
theorem rem_someA (h:Iv.ok a=true∧Iv.ok b=true) (h2:¬ ((partsV b).length:Int)=0) {al:Int} (ha:al=divA b) {v:Iv} (hv:v=remI a b):(⟨⟨v.lo,v.hi⟩,true,al⟩:Val)=remV a b:=by subst hv ha; exact rem_some h h2 rfl
theorem rem_twoA (h:Iv.ok a=true∧Iv.ok b=true) (h2:¬ ((partsV b).length:Int)=0) (h3:¬ a.lo=a.hi∨¬ b.lo=b.hi) {al x y:Int} (ha:al=divA b) (hx:x=if a.lo < 0 then max (IntKind.wrap .i64 (0 - remM b)) a.lo else 0) (hy:y=if a.hi > 0 then min (remM b) a.hi else 0) :
    (⟨⟨x,y⟩,true,al⟩:Val)=remV a b:=rem_someA h h2 ha (rem_two h3 hx hy)
theorem rem_oneA (h:Iv.ok a=true∧Iv.ok b=true) (h2:¬ ((partsV b).length:Int)=0) (h3:a.lo=a.hi∧b.lo=b.hi) {al:Int} (ha:al=divA b):(⟨⟨remN a.lo b.lo,remN a.lo b.lo⟩,true,al⟩:Val)=remV a b:=rem_someA h h2 ha (rem_one h3)
theorem rem_noneA (h:Iv.ok a=true∧Iv.ok b=true) (h2:((partsV b).length:Int)=0) {al:Int} (ha:al=divA b):(⟨⟨0,0⟩,false,al⟩:Val)=remV a b:=by subst ha; exact rem_none h h2
end
end Go.Proofs

namespace Go.Proofs
open Go Go.Ev
variable [Lay]
structure Bnd where
  d:Decl
  e:Env
  leaf:Int
deriving Inhabited
abbrev flagI (leaf n:Int):Int:=IntKind.wrap .i64 ((BitVec.ofInt (IntKind.bits .i64) (leaf.fdiv (2 ^ (min (n).toNat (IntKind.bits .i64)))) &&& BitVec.ofInt (IntKind.bits .i64) 1).toNat:Int)
theorem flagI_wrap {leaf n:Int} (h:0≤n∧n≤9223372036854775807):flagI leaf (IntKind.wrap .u64 n)=flagI leaf n:=by
  have e:IntKind.wrap .u64 n=n:=by rw [wrap_u64_eq]; omega
  rw [e]
def oneV (e:Env) (leaf:Int) (t:Tok):Iv:=if t.op=1 then ⟨t.n,t.n⟩ else if t.op=2 then e.ints.getD t.n.toNat default else if t.op=3 then ⟨flagI leaf t.n,flagI leaf t.n⟩ else ⟨truthN (t.op == 4),truthN (t.op == 4)⟩
def ofV (d:Decl) (e:Env) (t:Tok) (a:Iv):Val :=
  if t.op=6 then (if Iv.meets a (allOf (d.arrays.getD t.n.toNat default).size)=true then ⟨e.arrs.getD t.n.toNat default,true,alarmOf a (d.arrays.getD t.n.toNat default).size⟩ else ⟨⟨0,0⟩,false,alarmOf a (d.arrays.getD t.n.toNat default).size⟩)
  else if t.op=7 then opV 45 ⟨0,0⟩ a else ⟨⟨IntKind.wrap .i64 (1 - a.hi),IntKind.wrap .i64 (1 - a.lo)⟩,true,0⟩
def twoV (op:Int) (a b:Iv):Val :=
  if op=8 then opV 43 a b else if op=9 then opV 45 a b else if op=10 then opV 42 a b else if op=11 then quoV a b else if op=12 then remV a b
  else if op=20 then ⟨⟨min a.lo b.lo,min a.hi b.hi⟩,true,0⟩ else if op=21 then ⟨⟨max a.lo b.lo,max a.hi b.hi⟩,true,0⟩ else ⟨cmV op a b,true,0⟩
def topI (p:List Iv) (i:Nat):Iv:=p.getD (p.length - i) default
def stV (d:Decl) (e:Env) (leaf:Int) (p:List Iv) (t:Tok):Val:=if takesN t.op=0 then ⟨oneV e leaf t,true,0⟩ else if takesN t.op=1 then ofV d e t (topI p 1) else twoV t.op (topI p 2) (topI p 1)
def nxI (p:List Iv) (t:Tok) (v:Iv):List Iv:=p.take (p.length - (takesN t.op).toNat)++[v]
def vaS (d:Decl) (e:Env) (leaf:Int) (l:List Tok):Nat→(Bool × Int) × List Iv
  | 0=>((true,0),[])
  | j+1=>if (vaS d e leaf l j).1.1=true then
      (if (stV d e leaf (vaS d e leaf l j).2 (l.getD j default)).live=true then ((true,orI (vaS d e leaf l j).1.2 (stV d e leaf (vaS d e leaf l j).2 (l.getD j default)).alarms),nxI (vaS d e leaf l j).2 (l.getD j default) (stV d e leaf (vaS d e leaf l j).2 (l.getD j default)).iv)
      else ((false,orI (vaS d e leaf l j).1.2 (stV d e leaf (vaS d e leaf l j).2 (l.getD j default)).alarms),[]))
    else vaS d e leaf l j
def vaV (d:Decl) (e:Env) (leaf:Int) (l:List Tok):Val:=if (vaS d e leaf l l.length).1.1=true then ⟨(vaS d e leaf l l.length).2.getD 0 default,true,(vaS d e leaf l l.length).1.2⟩ else ⟨⟨0,0⟩,false,(vaS d e leaf l l.length).1.2⟩
def vaL (d:Decl) (e:Env) (leaf:Int):Bool:=((Decl.ok d&&Env.okIn d e)&&e.live)&&inR leaf 0 (IntKind.wrap .i64 (leavesOf d - 1))
def vaB (d:Decl) (l:List Tok) (e:Env) (leaf:Int):Bool:=vaL d e leaf&&(Expr.kind d l != 0)
def vaO (d:Decl) (l:List Tok) (e:Env) (leaf:Int):Val:=if vaB d l e leaf=true then vaV d e leaf l else ⟨⟨0,0⟩,false,0⟩
theorem Iv.parts {a b:Int} {v:Iv} (h:(⟨a,b⟩:Iv)=v):a=v.lo∧b=v.hi:=by subst h; exact ⟨rfl,rfl⟩
theorem Iv.eqs {u v:Iv} (h:u=v):u.lo=v.lo∧u.hi=v.hi:=by subst h; exact ⟨rfl,rfl⟩
section
variable {d:Decl} {e:Env} {leaf:Int} {t:Tok} {a b:Iv}
theorem one_1 (h:t.op=1):(⟨t.n,t.n⟩:Iv)=oneV e leaf t:=by unfold oneV; rw [if_pos h]
theorem one_2 (h:t.op=2):e.ints.getD t.n.toNat default=oneV e leaf t:=by unfold oneV; rw [if_neg (by omega),if_pos h]
theorem one_3 (h:t.op=3):(⟨flagI leaf t.n,flagI leaf t.n⟩:Iv)=oneV e leaf t:=by unfold oneV; rw [if_neg (by omega),if_neg (by omega),if_pos h]
theorem one_4 (h1:¬ t.op=1) (h2:¬ t.op=2) (h3:¬ t.op=3):(⟨truthN (t.op == 4),truthN (t.op == 4)⟩:Iv)=oneV e leaf t:=by unfold oneV; rw [if_neg h1,if_neg h2,if_neg h3]
theorem one_3w (h:t.op=3) (hn:0≤t.n∧t.n≤9223372036854775807):(⟨flagI leaf (IntKind.wrap .u64 t.n),flagI leaf (IntKind.wrap .u64 t.n)⟩:Iv)=oneV e leaf t:=by rw [flagI_wrap hn]; exact one_3 h
theorem one_t (h:t.op=4):(⟨1,1⟩:Iv)=oneV e leaf t:=by
  rw [← one_4 (by omega) (by omega) (by omega),h]; rfl
theorem one_d (h2:¬ t.op=2) (h3:¬ t.op=3) (h4:¬ t.op=4) (h5:t.op=1∨t.op=5) (h:t.op=5→t.n=0):(⟨t.n,t.n⟩:Iv)=oneV e leaf t:=by
  rcases h5 with h5 | h5
  · exact one_1 h5
  · rw [← one_4 (by omega) h2 h3,h h5,h5]; rfl
theorem ofV_6n (h:t.op=6) (h1:Iv.meets a (allOf (d.arrays.getD t.n.toNat default).size)=false):(⟨⟨0,0⟩,false,alarmOf a (d.arrays.getD t.n.toNat default).size⟩:Val)=ofV d e t a:=by unfold ofV; rw [if_pos h,if_neg (by rw [h1]; decide)]
theorem ofV_6 (h:t.op=6) (h1:Iv.meets a (allOf (d.arrays.getD t.n.toNat default).size)=true):(⟨e.arrs.getD t.n.toNat default,true,alarmOf a (d.arrays.getD t.n.toNat default).size⟩:Val)=ofV d e t a:=by unfold ofV; rw [if_pos h,if_pos h1]
theorem ofV_7 (h:t.op=7):opV 45 ⟨0,0⟩ a=ofV d e t a:=by unfold ofV; rw [if_neg (by omega),if_pos h]
theorem ofV_19 (h:¬ t.op=6) (h2:¬ t.op=7):(⟨⟨IntKind.wrap .i64 (1 - a.hi),IntKind.wrap .i64 (1 - a.lo)⟩,true,0⟩:Val)=ofV d e t a:=by unfold ofV; rw [if_neg h,if_neg h2]
variable {op:Int}
theorem two_8 (h:op=8):opV 43 a b=twoV op a b:=by unfold twoV; rw [if_pos h]
theorem two_9 (h:op=9):opV 45 a b=twoV op a b:=by subst h; rfl
theorem two_10 (h:op=10):opV 42 a b=twoV op a b:=by subst h; rfl
theorem two_11 (h:op=11):quoV a b=twoV op a b:=by subst h; rfl
theorem two_12 (h:op=12):remV a b=twoV op a b:=by subst h; rfl
theorem two_20 (h:op=20):(⟨⟨min a.lo b.lo,min a.hi b.hi⟩,true,0⟩:Val)=twoV op a b:=by subst h; rfl
theorem two_21 (h:op=21):(⟨⟨max a.lo b.lo,max a.hi b.hi⟩,true,0⟩:Val)=twoV op a b:=by subst h; rfl
theorem two_c (h1:¬ op=8) (h2:¬ op=9) (h3:¬ op=10) (h4:¬ op=11) (h5:¬ op=12) (h6:¬ op=20) (h7:¬ op=21):(⟨cmV op a b,true,0⟩:Val)=twoV op a b:=by
  unfold twoV; rw [if_neg h1,if_neg h2,if_neg h3,if_neg h4,if_neg h5,if_neg h6,if_neg h7]
theorem valC_fit {C:List Int}:FitI (valC C).iv:=by
  unfold valC FitI Fit
  split
  · simp
  · split
    · rename_i h; simp only; omega
    · simp
theorem opV_fit {o:Int}:FitI (opV o a b).iv:=by unfold opV; split; exact valC_fit; exact fit_zero
theorem quoV_fit:FitI (quoV a b).iv:=by unfold quoV; split; exact valC_fit; exact fit_zero
theorem remV_fit (ha:FitI a) (hb:FitI b):FitI (remV a b).iv:=by
  unfold remV
  split
  · split
    · exact fit_zero
    · show FitI (remI a b)
      unfold remI
      split
      · have h1:Fit (remN a.lo b.lo):=apN_fit (op:=12) ha.1 hb.1
        exact ⟨h1,h1⟩
      · have w1:=fit_wrap (0 - remM b)
        have w2:=fit_wrap (IntKind.wrap .u64 (max (absN b.lo) (absN b.hi) - 1))
        unfold FitI Fit at *
        simp only
        refine ⟨?_,?_⟩
        · split<;>omega
        · split
          · have h9:remM b=IntKind.wrap .i64 (IntKind.wrap .u64 (max (absN b.lo) (absN b.hi) - 1)):=rfl
            rw [← h9] at w2; omega
          · omega
  · exact fit_zero
theorem cmV_fit {op:Int}:FitI (cmV op a b):=by
  unfold cmV cmI FitI Fit
  split
  · simp only; refine ⟨?_,?_⟩<;>split<;>omega
  · simp
theorem twoV_fit {op:Int} (ha:FitI a) (hb:FitI b):FitI (twoV op a b).iv:=by
  unfold twoV
  repeat' split
  · exact opV_fit
  · exact opV_fit
  · exact opV_fit
  · exact quoV_fit
  · exact remV_fit ha hb
  · unfold FitI Fit at *; simp only; omega
  · unfold FitI Fit at *; simp only; omega
  · exact cmV_fit
end
structure NextV (d:Decl) (e:Env) (p:List Iv) (t:Tok):Prop where
  ok:1≤t.op∧t.op≤21
  n0:takesN t.op≤p.length
  num:t.op=1→Fit t.n
  zero:t.op=5→t.n=0
  var:t.op=2→0≤t.n∧t.n < e.ints.length
  flag:t.op=3→0≤t.n∧t.n≤9223372036854775807
  arr:t.op=6→0≤t.n∧t.n < e.arrs.length∧t.n < d.arrays.length
  f1:1≤takesN t.op→FitI (topI p 1)
  f2:2≤takesN t.op→FitI (topI p 2)
def PileV (d:Decl) (l:List Tok) (j:Nat) (p:List Iv):Prop:=∃ k,kdS d l j=some k∧k.length=p.length∧∀ i,i < p.length→FitI (p.getD i default)
theorem PileV.zero {d:Decl} {l:List Tok}:PileV d l 0 []:=⟨[],rfl,rfl,fun i hi=>absurd hi (by simp)⟩
section
variable {d:Decl} {e:Env} {leaf:Int} {l:List Tok} {j:Nat} {p:List Iv}
theorem nextV_of (hk:¬ Expr.kind d l=0) (hs:Env.okIn d e=true) (hl:e.live=true) (hfl:d.flags.length≤1048576) (hj:j < l.length) (hp:PileV d l j p):NextV d e p (l.getD j default):=by
  obtain ⟨k,h1,h2,h3⟩:=hp
  obtain ⟨o,_,n0,k1,k2⟩:=kd_step_eq hk hj h1
  generalize l.getD j default=t at *
  have hlen:=okIn_one hs hl
  have hn:=takesN_bnd t.op
  have o':=o
  unfold Tok.ok at o'
  refine ⟨Tok.ok_op o,by omega,fun h=>?_,fun h=>?_,fun h=>?_,fun h=>?_,fun h=>?_,fun h=>?_,fun h=>?_⟩
  · rw [if_pos h,inR_iff] at o'; unfold Fit; omega
  · rw [if_neg (by omega),if_neg (by omega),if_neg (by omega),if_neg (by omega)] at o'; simp at o'; exact o'.2
  · rw [if_neg (by omega),if_pos h,inR_iff] at o'; omega
  · rw [if_neg (by omega),if_neg (by omega),if_pos h,inR_iff] at o'; omega
  · rw [if_neg (by omega),if_neg (by omega),if_neg (by omega),if_pos h,inR_iff] at o'; omega
  · unfold topI; exact h3 _ (by omega)
  · unfold topI; exact h3 _ (by omega)
theorem stV_fit {t:Tok} (hf:FitE e) (h:NextV d e p t):FitI (stV d e leaf p t).iv:=by
  have hn:=takesN_bnd t.op
  unfold stV
  split
  · show FitI (oneV e leaf t)
    unfold oneV
    repeat' split
    · exact ⟨h.num ‹_›,h.num ‹_›⟩
    · have:=h.var ‹_›; exact hf.1 _ (getD_mem (by omega))
    · exact ⟨fit_wrap _,fit_wrap _⟩
    · have:=truthN_01 (t.op == 4); unfold FitI Fit; simp only; omega
  · split
    · unfold ofV
      repeat' split
      · have:=h.arr ‹_›; exact hf.2 _ (getD_mem (by omega))
      · exact fit_zero
      · exact opV_fit
      · exact ⟨fit_wrap _,fit_wrap _⟩
    · exact twoV_fit (h.f2 (by omega)) (h.f1 (by omega))
theorem PileV.next (hk:¬ Expr.kind d l=0) (hs:Env.okIn d e=true) (hl:e.live=true) (hfl:d.flags.length≤1048576) (hf:FitE e) (hj:j < l.length) (hp:PileV d l j p):PileV d l (j+1) (nxI p (l.getD j default) (stV d e leaf p (l.getD j default)).iv):=by
  have hn:=nextV_of hk hs hl hfl hj hp
  obtain ⟨k,h1,h2,h3⟩:=hp
  obtain ⟨o,e1,n0,k1,k2⟩:=kd_step_eq hk hj h1
  have hn2:=takesN_bnd (l.getD j default).op
  refine ⟨_,e1,?_,fun i hi=>?_⟩
  · unfold nxI; simp only [List.length_append,List.length_take,List.length_singleton]; omega
  · unfold nxI at hi ⊢
    simp only [List.length_append,List.length_take,List.length_singleton] at hi
    by_cases hi2:i < p.length - (takesN (l.getD j default).op).toNat
    · rw [getD_app1 (by rw [List.length_take]; omega),List.getD_eq_getElem?_getD,List.getElem?_take_of_lt hi2,← List.getD_eq_getElem?_getD]
      exact h3 i (by omega)
    · have e2:i=(p.take (p.length - (takesN (l.getD j default).op).toNat)).length+0:=by rw [List.length_take]; omega
      rw [e2,getD_app2]
      exact stV_fit hf hn
theorem pileV_len (hp:PileV d l j p):p.length≤j:=by
  obtain ⟨k,h1,h2,_⟩:=hp
  have:=kdS_len h1; omega
theorem pileV_end (hk:¬ Expr.kind d l=0) (hj:l.length≤j) (hj2:j≤l.length) (hp:PileV d l j p):p.length=1:=by
  have e1:j=l.length:=by omega
  subst e1
  obtain ⟨k,h1,h2,_⟩:=hp
  by_cases h:k.length=1
  · omega
  · exact absurd (kind_many rfl h1 h) hk
variable {al:Int}
theorem vaS_go (h:vaS d e leaf l j=((true,al),p)) (hv:(stV d e leaf p (l.getD j default)).live=true):vaS d e leaf l (j+1)=((true,orI al (stV d e leaf p (l.getD j default)).alarms),nxI p (l.getD j default) (stV d e leaf p (l.getD j default)).iv):=by
  rw [vaS,h]; exact (if_pos rfl).trans (if_pos hv)
theorem vaS_bad (h:vaS d e leaf l j=((true,al),p)) (hv:(stV d e leaf p (l.getD j default)).live=false):vaS d e leaf l (j+1)=((false,orI al (stV d e leaf p (l.getD j default)).alarms),[]):=by
  rw [vaS,h]; exact (if_pos rfl).trans (if_neg (by rw [hv]; decide))
theorem vaS_stay (h:(vaS d e leaf l j).1.1=false):∀ n,vaS d e leaf l (j+n)=vaS d e leaf l j
  | 0=>rfl
  | n+1=>by rw [← Nat.add_assoc,vaS,vaS_stay h n,if_neg (by rw [h]; decide)]
theorem va_bad (h:vaS d e leaf l j=((true,al),p)) (hj:j < l.length) (hv:(stV d e leaf p (l.getD j default)).live=false):(⟨⟨0,0⟩,false,orI al (stV d e leaf p (l.getD j default)).alarms⟩:Val)=vaV d e leaf l:=by
  have h1:=vaS_bad h hv
  have h2:=vaS_stay (d:=d) (e:=e) (leaf:=leaf) (l:=l) (j:=j+1) (by rw [h1]) (l.length - (j+1))
  rw [show j+1+(l.length - (j+1))=l.length by omega,h1] at h2
  unfold vaV; rw [h2]; rfl
theorem va_end (h:vaS d e leaf l j=((true,al),p)) (hj:l.length≤j) (hj2:j≤l.length):(⟨p.getD 0 default,true,al⟩:Val)=vaV d e leaf l:=by
  have e1:j=l.length:=by omega
  subst e1
  unfold vaV; rw [h]; rfl
theorem stV_0 {t:Tok} (h:takesN t.op=0):(⟨oneV e leaf t,true,0⟩:Val)=stV d e leaf p t:=by unfold stV; rw [if_pos h]
theorem stV_1 {t:Tok} (h:takesN t.op=1):ofV d e t (p.getD ((p.length:Int) - takesN t.op).toNat default)=stV d e leaf p t:=by
  unfold stV topI; rw [if_neg (by omega),if_pos h,h,show ((p.length:Int) - 1).toNat=p.length - 1 by omega]
theorem stV_2 {t:Tok} (h:takesN t.op=2) (hl:2≤p.length):twoV t.op (p.getD ((p.length:Int) - takesN t.op).toNat default) (p.getD ((p.length:Int) - takesN t.op+1).toNat default)=stV d e leaf p t:=by
  unfold stV topI; rw [if_neg (by omega),if_neg (by omega),h,show ((p.length:Int) - 2).toNat=p.length - 2 by omega,show ((p.length:Int) - 2+1).toNat=p.length - 1 by omega]
theorem nx_v {t:Tok} {v:Val} (hv:v=stV d e leaf p t) (h:takesN t.op≤p.length) (h0:0≤takesN t.op):p.take ((p.length:Int) - takesN t.op).toNat++[v.iv]=nxI p t (stV d e leaf p t).iv:=by
  subst hv; unfold nxI; rw [show ((p.length:Int) - takesN t.op).toNat=p.length - (takesN t.op).toNat by omega]
theorem nx_w {t:Tok} {v:Val} {w:Iv} (hv:v=stV d e leaf p t) (hw:w=v.iv) (h:takesN t.op≤p.length) (h0:0≤takesN t.op):p.take ((p.length:Int) - takesN t.op).toNat++[w]=nxI p t (stV d e leaf p t).iv:=by rw [hw]; exact nx_v hv h h0
theorem al_v {t:Tok} {v:Val} (hv:v=stV d e leaf p t):orI al v.alarms=orI al (stV d e leaf p t).alarms:=by rw [hv]
theorem go_v {t:Tok} {v:Val} (hv:v=stV d e leaf p t) (h:v.live=true):(stV d e leaf p t).live=true:=by rw [← hv]; exact h
theorem bad_v {v:Val} (h:vaS d e leaf l j=((true,al),p)) (hj:j < l.length) (hv:v=stV d e leaf p (l.getD j default)) (h9:v.live=false):(⟨⟨0,0⟩,false,orI al v.alarms⟩:Val)=vaV d e leaf l:=by
  rw [hv]; exact va_bad h hj (by rw [← hv]; exact h9)
theorem nextV_top {t:Tok} (h:NextV d e p t):(takesN t.op=1→FitI (p.getD ((p.length:Int) - takesN t.op).toNat default))∧(takesN t.op=2→FitI (p.getD ((p.length:Int) - takesN t.op).toNat default)∧FitI (p.getD ((p.length:Int) - takesN t.op+1).toNat default)):=by
  have hn:=h.n0
  refine ⟨fun h1=>?_,fun h2=>?_⟩
  · rw [show ((p.length:Int) - takesN t.op).toNat=p.length - 1 by omega]; exact h.f1 (by omega)
  · rw [show ((p.length:Int) - takesN t.op).toNat=p.length - 2 by omega,show ((p.length:Int) - takesN t.op+1).toNat=p.length - 1 by omega]
    exact ⟨h.f2 (by omega),h.f1 (by omega)⟩
end
section
variable {d:Decl} {e:Env} {leaf:Int} {l:List Tok}
theorem vaO_yes (h:vaL d e leaf=true∧¬ Expr.kind d l=0):vaV d e leaf l=vaO d l e leaf:=by
  unfold vaO vaB; rw [h.1]; simp [h.2]
theorem vaO_no (h:vaL d e leaf=false∨Expr.kind d l=0):(⟨⟨0,0⟩,false,0⟩:Val)=vaO d l e leaf:=by
  unfold vaO vaB
  rcases h with h | h
  · rw [h]; rfl
  · rw [h]; simp
theorem vaL_get (h:vaL d e leaf=true):(Decl.ok d=true∧Env.okIn d e=true)∧e.live=true:=by
  unfold vaL at h; simp only [Bool.and_eq_true] at h; exact h.1
theorem vaS_no (h:(((Decl.ok d=false∨Env.okIn d e=false)∨e.live=false)∨inR leaf 0 (IntKind.wrap .i64 (leavesOf d - 1))=false)∨Expr.kindIn d l=0):vaL d e leaf=false∨Expr.kind d l=0:=by
  cases hL:vaL d e leaf with
  | false=>exact .inl rfl
  | true =>
    unfold vaL at hL; simp only [Bool.and_eq_true] at hL
    obtain ⟨⟨⟨h1,h2⟩,h3⟩,h4⟩:=hL
    rw [h1,h2,h3,h4] at h
    rcases h with (((h | h) | h) | h) | h
    · cases h
    · cases h
    · cases h
    · cases h
    · unfold Expr.kindIn at h; rw [if_pos h1] at h; exact .inr h
theorem vaS_yes (h:(((Decl.ok d=true∧Env.okIn d e=true)∧e.live=true)∧inR leaf 0 (IntKind.wrap .i64 (leavesOf d - 1))=true)∧¬ Expr.kindIn d l=0):vaL d e leaf=true∧¬ Expr.kind d l=0:=by
  obtain ⟨⟨⟨⟨h1,h2⟩,h3⟩,h4⟩,h5⟩:=h
  unfold Expr.kindIn at h5; rw [if_pos h1] at h5
  refine ⟨?_,h5⟩
  unfold vaL; rw [h1,h2,h3,h4]; rfl
end
end Go.Proofs

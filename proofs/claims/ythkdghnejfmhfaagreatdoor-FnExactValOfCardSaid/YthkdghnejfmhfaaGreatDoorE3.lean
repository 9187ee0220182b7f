/- A symbolic executor over data by value, proved sound over any program: no conditions. -/
import Derived.Test.YthkdghnejfmhfaaGreatDoorE2
import Derived.Laws.BytesString
import Derived.Carry
import Derived.ChangeArms
import Derived.ChangeSame
import Derived.Deep.Strs
import Derived.Deep.Slices
import Derived.Laws.StructEq
set_option linter.all false
set_option linter.unnecessarySimpa false
set_option linter.unusedSectionVars false
set_option linter.unusedSimpArgs false
set_option linter.unusedVariables false
namespace Go.Ev
variable [Lay]

structure Cov (x y:FP):Prop where
  d:x.d=y.d
  rs:∀ i∈x.rs,i∈y.rs
  rh:∀ i∈x.rh,i∈y.rh
  wh:∀ i∈x.wh,i∈y.wh
inductive Covs:List FP→List FP→Prop where
  | nil:Covs [] []
  | cons {x y:FP} {l m:List FP} (h:Cov x y) (t:Covs l m):Covs (x::l) (y::m)
theorem Cov.refl (x:FP):Cov x x:=⟨rfl,fun _ h=>h,fun _ h=>h,fun _ h=>h⟩
theorem Covs.len {l m:List FP} (h:Covs l m):l.length=m.length:=by
  induction h with
  | nil=>rfl
  | cons _ _ ih=>simp [ih]
theorem Covs.get {l m:List FP} (h:Covs l m):∀ i,Cov (l.getD i .none) (m.getD i .none):=by
  induction h with
  | nil=>intro i; simpa using Cov.refl FP.none
  | cons h _ ih =>
    intro i
    cases i with
    | zero=>exact h
    | succ i=>simpa using ih i
theorem conf_mono {x y x' y':FP} (hx:Cov x x') (hy:Cov y y') (h:conf x y=true):conf x' y'=true:=by
  simp only [conf,Bool.or_eq_true,List.any_eq_true,List.contains_iff_mem] at h ⊢
  rcases h with ((h | h) | ⟨q,h1,h2⟩) | ⟨q,h1,h2⟩
  · refine .inl (.inl (.inl ?_))
    rw [← hx.d]
    cases hd:x.d with
    | none=>simp [hd] at h
    | some d =>
      simp only [hd,Bool.or_eq_true,List.contains_iff_mem] at h ⊢
      rw [← hy.d]
      exact h.imp (hy.rs d) id
  · refine .inl (.inl (.inr ?_))
    rw [← hy.d]
    cases hd:y.d with
    | none=>simp [hd] at h
    | some d =>
      simp only [hd,List.contains_iff_mem] at h ⊢
      exact hx.rs d h
  · exact .inl (.inr ⟨q,hx.wh q h1,h2.imp (hy.rh q) (hy.wh q)⟩)
  · exact .inr ⟨q,hy.wh q h1,hx.rh q h2⟩
theorem orderB_mono {af:List (List Nat)} {l m:List FP} (h:Covs l m) (hb:orderB af m=true):orderB af l=true:=by
  obtain ⟨h1,h2⟩:=orderB_lt hb
  simp only [orderB,List.all_eq_true,List.mem_range,Bool.and_eq_true,decide_eq_true_eq,Bool.or_eq_true,Bool.not_eq_true']
  refine fun j hj=>⟨fun i hi=>h1 j i (h.len ▸ hj) hi,fun i hi=>?_⟩
  cases hc:conf (l.getD i .none) (l.getD j .none) with
  | false=>exact .inl rfl
  | true=>exact .inr (by rw [h.len]; exact h2 i j hi (h.len ▸ hj) (conf_mono (h.get i) (h.get j) hc))

def Seg (P:Program) (n:Nat) (ops:Array Oper) (l:List Oper) (k:Nat) (s:St) (fps:List FP) (K:St→Prop):Prop :=
  ∃ xs s',Runs P n ops l k s xs s'∧Covs (xs.map Sp.fp) fps∧K s'

inductive Let (n:Nat) (ops:Array Oper) (o:Oper) (s:St):List (Nat × SV)→Prop where
  | no (h:o.guard=none):Let n ops o s []
  | on {j d:Nat} {b:Bool} {og:Oper} (hg:o.guard=some (j,b)) (hj:ops[j]?=some og) (hd:og.dst=some d) (hn:Nat.blt d n=true) (hs:s.slots d=.one (.d (.v (.bool b)))):Let n ops o s [(d,.one (.d (.v (.bool b))))]

section
variable {P:Program} {n:Nat} {ops:Array Oper} {l:List Oper} {k:Nat} {s:St} {fps:List FP} {K:St→Prop} {o:Oper}

theorem Seg.nil (h:K s):Seg P n ops [] k s [] K:=⟨[],s,.nil k s,.nil,h⟩
theorem Seg.cons' {x:Sp} {fp:FP} (h:OpG P n ops o x) (hk:x.k=k) (hp:x.pre s) (hc:Cov x.fp fp) (t:Seg P n ops l (k+1) (x.apply s) fps K):Seg P n ops (o::l) k s (fp::fps) K:=by
  obtain ⟨xs,s',h1,h2,h3⟩:=t
  exact ⟨x::xs,s',.cons h hk hp h1,.cons hc h2,h3⟩
theorem Seg.cons {x:Sp} (h:OpG P n ops o x) (hk:x.k=k) (hp:x.pre s) (t:Seg P n ops l (k+1) (x.apply s) fps K):Seg P n ops (o::l) k s (x.fp::fps) K:=Seg.cons' h hk hp (.refl _) t

theorem OpG.lets {gs:List (Nat × SV)} {preS:List (Nat × SV)} {preH:Objs} {out:SV} {upd:List (Id × Option (Nat × Nat × O))} (hg:Let n ops o s gs) (hd:dstB o n=true) (h:OpS P o k preS preH out upd):OpG P n ops o ⟨k,gs++preS,preH,out,upd,o.dst⟩:=by
  cases hg with
  | no h0=>exact .of h0 hd h
  | on h0 hj hgd hn _=>exact .on h0 hj hgd (by simpa using hn) hd h
theorem Let.self {gs:List (Nat × SV)} (hg:Let n ops o s gs):∀ p∈gs,s.slots p.1=p.2:=by
  cases hg with
  | no=>simp
  | on _ _ _ _ hs=>simpa using hs

theorem pre_self (s:St) (x:Operand):∀ p∈preOf s x,s.slots p.1=p.2:=by
  cases x<;>simp [preOf]
theorem pres_self (s:St) (l:List Operand):∀ p∈preOfs s l,s.slots p.1=p.2:=by
  intro p hp
  obtain ⟨x,_,hx⟩:=List.mem_flatMap.1 hp
  exact pre_self s x p hx
theorem preOp_self (s:St) (x:Option Operand):∀ p∈preOp s x,s.slots p.1=p.2:=by
  cases x with
  | none=>simp [preOp]
  | some x=>exact pre_self s x
theorem app_self {s:St} {a b:List (Nat × SV)} (ha:∀ p∈a,s.slots p.1=p.2) (hb:∀ p∈b,s.slots p.1=p.2):∀ p∈a++b,s.slots p.1=p.2:=fun p hp=>(List.mem_append.1 hp).elim (ha p) (hb p)

theorem Seg.op {gs:List (Nat × SV)} {preS:List (Nat × SV)} {preH:Objs} {out:SV} {upd:List (Id × Option (Nat × Nat × O))} (hg:Let n ops o s gs) (hd:dstB o n=true) (h:OpS P o k preS preH out upd) (hS:∀ p∈preS,s.slots p.1=p.2) (hH:∀ p∈preH,s.H p.1=some p.2)
    (t:Seg P n ops l (k+1) ((s.upds upd).putO o.dst out) fps K):Seg P n ops (o::l) k s (⟨(gs++preS).map (·.1),o.dst,preH.map (·.1),upd.map (·.1)⟩::fps) K :=
  Seg.cons (x:=⟨k,gs++preS,preH,out,upd,o.dst⟩) (.lets hg hd h) rfl ⟨app_self hg.self hS,hH⟩ t

theorem Seg.off {og:Oper} {j d:Nat} {b:Bool} {fp:FP} (hg:o.guard=some (j,b)) (hj:ops[j]?=some og) (hgd:og.dst=some d) (hn:Nat.blt d n=true) (hd:dstB o n=true) (hs:s.slots d=.one (.d (.v (.bool !b)))) (hfp:(fp.rs.contains d&&fp.d == o.dst)=true)
    (t:Seg P n ops l (k+1) (s.putO o.dst (.tup [])) fps K):Seg P n ops (o::l) k s (fp::fps) K:=by
  simp only [Bool.and_eq_true,List.contains_iff_mem,beq_iff_eq] at hfp
  exact Seg.cons' (x:=⟨k,[(d,.one (.d (.v (.bool !b))))],[],.tup [],[],o.dst⟩) (.off hg hj hgd (by simpa using hn) hd) rfl ⟨by simpa using hs,by simp⟩ ⟨hfp.2.symm,by simpa [Sp.fp] using hfp.1,by simp [Sp.fp],by simp [Sp.fp]⟩ t
theorem Seg.off' {og:Oper} {j d:Nat} {b:Bool} {l0:List SV} {fp:FP} (hg:o.guard=some (j,b)) (hj:ops[j]?=some og) (hgd:og.dst=some d) (hd:dstB o n=true) (hs:s.slots d=.tup l0) (hfp:(fp.rs.contains d&&fp.d == o.dst)=true)
    (t:Seg P n ops l (k+1) (s.putO o.dst (.tup [])) fps K):Seg P n ops (o::l) k s (fp::fps) K:=by
  simp only [Bool.and_eq_true,List.contains_iff_mem,beq_iff_eq] at hfp
  exact Seg.cons' (x:=⟨k,[(d,.tup l0)],[],.tup [],[],o.dst⟩) (.off' hg hj hgd hd) rfl ⟨by simpa using hs,by simp⟩ ⟨hfp.2.symm,by simpa [Sp.fp] using hfp.1,by simp [Sp.fp],by simp [Sp.fp]⟩ t

section
variable {gs:List (Nat × SV)} (hg:Let n ops o s gs) (hd:dstB o n=true)
include hg hd

theorem Seg.move {x:Operand} {v:SV} (h:o.op=.move x) (hx:s.eval x=v) {fp:FP} (hfp:(⟨(gs++preOf s x).map (·.1),o.dst,[],[]⟩:FP)=fp) (t:Seg P n ops l (k+1) (s.putO o.dst v) fps K):Seg P n ops (o::l) k s (fp::fps) K:=by
  subst hfp
  exact Seg.op hg hd (.move k s (.inl h)) (pre_self s x) (by simp) (by rw [hx]; exact t)
theorem Seg.assign {x:Operand} {v:SV} (h:o.op=.assign x) (hx:s.eval x=v) {fp:FP} (hfp:(⟨(gs++preOf s x).map (·.1),o.dst,[],[]⟩:FP)=fp) (t:Seg P n ops l (k+1) (s.putO o.dst v) fps K):Seg P n ops (o::l) k s (fp::fps) K:=by
  subst hfp
  exact Seg.op hg hd (.move k s (.inr h)) (pre_self s x) (by simp) (by rw [hx]; exact t)
theorem Seg.moveB {x:Operand} {v:Bool} (h:o.op=.move x) (hx:s.eval x=.one (.d (.v (.bool v)))) {fp:FP} (hfp:(⟨(gs++preOf s x).map (·.1),o.dst,[],[]⟩:FP)=fp) (t:∀ b,v=b→Seg P n ops l (k+1) (s.putO o.dst (.one (.d (.v (.bool b))))) fps K):Seg P n ops (o::l) k s (fp::fps) K:=by
  subst hfp
  exact Seg.op hg hd (.move k s (.inl h)) (pre_self s x) (by simp) (by rw [hx]; exact t v rfl)

theorem Seg.box {t0:TypeId} {x:Operand} {d:Nat} {cs:List C} (h:o.op=.box t0 x) (hd':o.dst=some d) (hx:(s.eval x).cells=some cs) {fp:FP} (hfp:(⟨(gs++preOf s x).map (·.1),o.dst,[],[[d]]⟩:FP)=fp) (t:Seg P n ops l (k+1) ((s.obj [d] (some (k,k,.box cs))).put d (.one (.ptr [d] k 0))) fps K) :
    Seg P n ops (o::l) k s (fp::fps) K:=by
  subst hfp
  exact Seg.op hg hd (.box k s h hd' hx) (pre_self s x) (by simp) (by rw [hd']; exact t)
theorem Seg.alloc {t0:TypeId} {i:TI} {d:Nat} (ht:ZOk P t0 i) (h:o.op=.alloc t0) (hd':o.dst=some d) {fp:FP} (hfp:(⟨gs.map (·.1),o.dst,[],[[d]]⟩:FP)=fp) (t:Seg P n ops l (k+1) ((s.obj [d] (some (k,k,.box (zcells i)))).put d (.one (.ptr [d] k 0))) fps K) :
    Seg P n ops (o::l) k s (fp::fps) K:=by
  subst hfp
  have:=Seg.op (l:=l) (fps:=fps) (K:=K) hg hd (.alloc k ht h hd') (by simp) (by simp) (by rw [hd']; exact t)
  simpa using this
theorem Seg.load {t0:TypeId} {i:TI} {x:Operand} {c:C} {cs:List C} {pre:Objs} (ht:TyOk P t0 i) (h:o.op=.load t0 x) (hx:s.eval x=.one c) (hat:At s c cs pre) (hsz:Nat.ble i.size cs.length=true) (h0:Nat.blt 0 cs.length=true) {v:SV} (hv:loadSV i cs=v)
    {fp:FP} (hfp:(⟨(gs++preOf s x).map (·.1),o.dst,pre.map (·.1),[]⟩:FP)=fp) (t:Seg P n ops l (k+1) (s.putO o.dst v) fps K):Seg P n ops (o::l) k s (fp::fps) K:=by
  subst hfp
  exact Seg.op hg hd (.load k s ht h hx hat (by simpa using hsz) (by simpa using h0)) (pre_self s x) (fun p hp=>by
    cases hat with
    | d=>simp at hp
    | _=>simp only [List.mem_singleton] at hp; subst hp; assumption) (by rw [hv]; exact t)
theorem Seg.store {t0:TypeId} {i:TI} {x y:Operand} {r:Id} {k0 off m0:Nat} {cells cs:List C} (ht:TyOk P t0 i) (h:o.op=.store t0 x y) (hd':o.dst=none) (hx:s.eval x=.one (.ptr r k0 off)) (hH:s.H r=some (k0,m0,.box cells)) (hy:(s.eval y).cells=some cs)
    (hl:cs.length=i.size) (hoff:Nat.ble (off+cs.length) cells.length=true) {cells':List C} (hc:cells.take off++cs++cells.drop (off+cs.length)=cells') {fp:FP} (hfp:(⟨(gs++(preOf s x++preOf s y)).map (·.1),none,[r],[r]⟩:FP)=fp) (t:Seg P n ops l (k+1) (s.obj r (some (k0,k,.box cells'))) fps K) :
    Seg P n ops (o::l) k s (fp::fps) K:=by
  subst hfp
  have:=Seg.op (l:=l) (fps:=fps) (K:=K) hg hd (.store k s ht h hd' hx (m0:=m0) (cells:=cells) hy hl (by simpa using hoff)) (app_self (pre_self s x) (pre_self s y)) (by simpa using hH) (by rw [hd',hc]; exact t)
  rw [hd'] at this
  exact this
theorem Seg.fieldAddr {t0:TypeId} {i:TI} {fs:List (Nat × TypeId)} {fno fo:Nat} {ft:TypeId} {fi:TI} {x:Operand} {c c':C} (ht:TyOk P t0 i) (hk:i.k=.st fs) (hf:fs[fno]?=some (fo,ft)) (hft:TyOk P ft fi) (h0:Nat.blt 0 fi.size=true)
    (h:o.op=.fieldAddr t0 x fno) (hx:s.eval x=.one c) (hp:c.isPtr=true) (pre:Objs) (hH:∀ p∈pre,s.H p.1=some p.2) (hn:∀ r m l,c=.view r m (.pt false l)→∃ k o,(r,(k,m,o))∈pre) (hc:c.shift fo=c') {fp:FP} (hfp:(⟨(gs++preOf s x).map (·.1),o.dst,pre.map (·.1),[]⟩:FP)=fp) (t:Seg P n ops l (k+1) (s.putO o.dst (.one c')) fps K) :
    Seg P n ops (o::l) k s (fp::fps) K:=by
  subst hfp
  have h1:0 < fi.size:=by simpa using h0
  exact Seg.op hg hd (.fieldAddr k s ht hk hf hft (by omega) h hx hp hn) (pre_self s x) hH (by rw [hc]; exact t)
theorem Seg.fieldAddrP {t0:TypeId} {i:TI} {fs:List (Nat × TypeId)} {fno fo:Nat} {ft:TypeId} {fi:TI} {x:Operand} {r:Id} {k0 off:Nat} (ht:TyOk P t0 i) (hk:i.k=.st fs) (hf:fs[fno]?=some (fo,ft)) (hft:TyOk P ft fi) (h0:Nat.blt 0 fi.size=true)
    (h:o.op=.fieldAddr t0 x fno) (hx:s.eval x=.one (.ptr r k0 off)) {fp:FP} (hfp:(⟨(gs++preOf s x).map (·.1),o.dst,[],[]⟩:FP)=fp) (t:Seg P n ops l (k+1) (s.putO o.dst (.one (.ptr r k0 (off+fo)))) fps K) :
    Seg P n ops (o::l) k s (fp::fps) K:=by
  subst hfp
  exact Seg.fieldAddr hg hd ht hk hf hft h0 h hx rfl [] (by simp) (by simp) rfl rfl t
theorem Seg.bin {op:BinOp} {t0 yt:TypeId} {x y:Operand} {vx vy v:Value} (h:o.op=.binOp op t0 x y yt) (hx:(s.eval x).plain=some vx) (hy:(s.eval y).plain=some vy) (hv:binF op vx vy=some v) {fp:FP} (hfp:(⟨(gs++(preOf s x++preOf s y)).map (·.1),o.dst,[],[]⟩:FP)=fp) (t:Seg P n ops l (k+1) (s.putO o.dst (.one (.d (.v v)))) fps K) :
    Seg P n ops (o::l) k s (fp::fps) K:=by
  subst hfp
  exact Seg.op hg hd (.bin k s h hx hy (binF_one hv) fun w=>binF_run t0 x y hv w) (app_self (pre_self s x) (pre_self s y)) (by simp) t
theorem Seg.un {op:UnOp} {t0:TypeId} {x:Operand} {vx v:Value} (h:o.op=.unOp op t0 x) (hx:(s.eval x).plain=some vx) (hv:unF op vx=some v) {fp:FP} (hfp:(⟨(gs++preOf s x).map (·.1),o.dst,[],[]⟩:FP)=fp) (t:Seg P n ops l (k+1) (s.putO o.dst (.one (.d (.v v)))) fps K) :
    Seg P n ops (o::l) k s (fp::fps) K:=by
  subst hfp
  exact Seg.op hg hd (.un k s h hx (unF_one hv) fun w=>unF_run hv w) (pre_self s x) (by simp) t
theorem Seg.pick {c x y:Operand} {b:Bool} {v:SV} (h:o.op=.pick c x y) (hc:(s.eval c).plain=some (.bool b)) (hv:s.eval (if b then x else y)=v) {fp:FP} (hfp:(⟨(gs++(preOf s c++(preOf s x++preOf s y))).map (·.1),o.dst,[],[]⟩:FP)=fp) (t:Seg P n ops l (k+1) (s.putO o.dst v) fps K) :
    Seg P n ops (o::l) k s (fp::fps) K:=by
  subst hfp
  have h1:OpS P o k (preOf s c++(preOf s x++preOf s y)) [] (s.eval (if b then x else y)) []:=by
    have h2:=OpS.pick (P:=P) k s h hc
    intro w M n U s' a W next Q hS hH hk hdn hr hn
    refine h2 w M n U s' a W next Q (fun p hp=>hS p ?_) hH hk hdn hr hn
    simp only [List.mem_append] at hp ⊢
    rcases hp with hp | hp
    · exact .inl hp
    · cases b
      · exact .inr (.inr hp)
      · exact .inr (.inl hp)
  exact Seg.op hg hd h1 (app_self (pre_self s c) (app_self (pre_self s x) (pre_self s y))) (by simp) (by rw [hv]; exact t)
theorem Seg.extract {x:Operand} {i:Nat} {vs:List SV} {v:SV} (h:o.op=.extract x i) (hx:s.eval x=.tup vs) (hv:vs[i]?=some v) {fp:FP} (hfp:(⟨(gs++preOf s x).map (·.1),o.dst,[],[]⟩:FP)=fp) (t:Seg P n ops l (k+1) (s.putO o.dst v) fps K) :
    Seg P n ops (o::l) k s (fp::fps) K:=by
  subst hfp
  exact Seg.op hg hd (.extract k s h hx hv) (pre_self s x) (by simp) t
theorem Seg.nilCheck {x:Operand} {c:C} (h:o.op=.nilCheck x) (hx:s.eval x=.one c) (hc:∀ I u,Cok I c u→∃ ad,u=.pointer (some ad)) {fp:FP} (hfp:(⟨(gs++preOf s x).map (·.1),o.dst,[],[]⟩:FP)=fp) (t:Seg P n ops l (k+1) (s.putO o.dst (.one c)) fps K) :
    Seg P n ops (o::l) k s (fp::fps) K:=by
  subst hfp
  exact Seg.op hg hd (.nilCheck k s h hx hc) (pre_self s x) (by simp) t
theorem Seg.conv {src dst:TypeId} {x:Operand} {i j:TI} {k0 k1 k2:IntKind} {z:Int} {z':Int} (hs:TyOk P src i) (hj:TyOk P dst j) (h:o.op=.convert src dst x) (hk0:i.k=.int k0) (hk1:j.k=.int k1) (hx:(s.eval x).plain=some (.int k2 z)) (hz:k1.wrap z=z')
    {fp:FP} (hfp:(⟨(gs++preOf s x).map (·.1),o.dst,[],[]⟩:FP)=fp) (t:Seg P n ops l (k+1) (s.putO o.dst (.one (.d (.v (.int k1 z'))))) fps K):Seg P n ops (o::l) k s (fp::fps) K:=by
  subst hfp
  exact Seg.op hg hd (.conv k s h hx rfl fun w=>by rw [conv_int hs hj hk0 hk1 k2 z w,hz]) (pre_self s x) (by simp) t
theorem Seg.min {ts:Array TypeId} {x y:Operand} {k1:IntKind} {i j z:Int} (h:o.op=.call { callee:=.builtin .min,args:=#[x,y],argTypes:=ts }) (hx:(s.eval x).plain=some (.int k1 i)) (hy:(s.eval y).plain=some (.int k1 j))
    (hz:(if j < i then j else i)=z) {fp:FP} (hfp:(⟨(gs++(preOf s x++preOf s y)).map (·.1),o.dst,[],[]⟩:FP)=fp) (t:Seg P n ops l (k+1) (s.putO o.dst (.one (.d (.v (.int k1 z))))) fps K):Seg P n ops (o::l) k s (fp::fps) K:=by
  subst hfp
  exact Seg.op hg hd (.minmax k s (.inl rfl) h hx hy) (app_self (pre_self s x) (pre_self s y)) (by simp) (by subst hz; exact t)
theorem Seg.max {ts:Array TypeId} {x y:Operand} {k1:IntKind} {i j z:Int} (h:o.op=.call { callee:=.builtin .max,args:=#[x,y],argTypes:=ts }) (hx:(s.eval x).plain=some (.int k1 i)) (hy:(s.eval y).plain=some (.int k1 j))
    (hz:(if j > i then j else i)=z) {fp:FP} (hfp:(⟨(gs++(preOf s x++preOf s y)).map (·.1),o.dst,[],[]⟩:FP)=fp) (t:Seg P n ops l (k+1) (s.putO o.dst (.one (.d (.v (.int k1 z))))) fps K):Seg P n ops (o::l) k s (fp::fps) K:=by
  subst hfp
  exact Seg.op hg hd (.minmax k s (.inr rfl) h hx hy) (app_self (pre_self s x) (pre_self s y)) (by simp) (by subst hz; exact t)
theorem Seg.build {t0:TypeId} {i:TI} {fs:List (Nat × TypeId)} {pl:List (Nat × Nat)} {ps:List (Nat × Operand)} {pc:List (Nat × List C)} {out:List C} (ht:ZOk P t0 i) (hk:i.k=.st fs) (hpl:Places P fs pl) (h:o.op=.build t0 ps.toArray)
    (hp:partsC s ps=some pc) (hf:fillC (pl[·]?) (zcells i) pc=some out) {fp:FP} (hfp:(⟨(gs++preOfs s (ps.map (·.2))).map (·.1),o.dst,[],[]⟩:FP)=fp) (t:Seg P n ops l (k+1) (s.putO o.dst (.agg out)) fps K):Seg P n ops (o::l) k s (fp::fps) K:=by
  subst hfp
  exact Seg.op hg hd (.build k s ht hk hpl h hp hf) (pres_self s _) (by simp) t
theorem Seg.makeFunc {f:FuncId} {first caps:List Operand} {fc:List (Bool × List C)} {cc:List C} (h:o.op=.makeFunc (.func f) first.toArray caps.toArray) (hf:firstsC s first=some fc) (hc:capsC s caps=some cc) {fp:FP} (hfp:(⟨(gs++(preOfs s first++preOfs s caps)).map (·.1),o.dst,[],[]⟩:FP)=fp) (t:Seg P n ops l (k+1) (s.putO o.dst (.one (.clo f fc cc))) fps K) :
    Seg P n ops (o::l) k s (fp::fps) K:=by
  subst hfp
  exact Seg.op hg hd (.makeFunc k s h hf hc) (app_self (pres_self s _) (pres_self s _)) (by simp) t
end
end
end Go.Ev

namespace Go.Ev
variable [Lay]

theorem Els.hold {s:St} {sz:Nat} {c:C} {l:List (List D)} {pre:Objs} (h:Els s sz c l pre):∀ p∈pre,s.H p.1=some p.2:=by
  intro p hp
  cases h with
  | d=>simp at hp
  | nil=>simp at hp
  | _=>simp only [List.mem_singleton] at hp; subst hp; assumption
theorem Onto.hold {s:St} {d e sz:Nat} {c:C} {r:Id} {l:List (List D)} {pre:Objs} (h:Onto s d e sz c r l pre):∀ p∈pre,s.H p.1=some p.2:=by
  intro p hp
  cases h with
  | nil=>simp at hp
  | _=>simp only [List.mem_singleton] at hp; subst hp; assumption
theorem From.hold {s:St} {sz:Nat} {c:C} {l:List (List D)} {pre ks:Objs} (h:From s sz c l pre ks):∀ p∈pre,s.H p.1=some p.2:=by
  intro p hp
  cases h with
  | ro=>simp at hp
  | nil=>simp at hp
  | _=>simp only [List.mem_singleton] at hp; subst hp; assumption
theorem Fits.hold {s:St} {c:C} {x:D} {ks:Objs} (h:Fits s c x ks):∀ p∈ks,s.H p.1=some p.2:=by
  intro p hp
  cases h with
  | d=>simp at hp
  | nil=>simp at hp
  | ref=>simp only [List.mem_singleton] at hp; subst hp; assumption
theorem FitsL.hold {s:St} {cs:List C} {xs:List D} {ks:Objs} (h:FitsL s cs xs ks):∀ p∈ks,s.H p.1=some p.2:=by
  induction h with
  | nil=>simp
  | cons c x k1 cs xs k2 h _ ih=>intro p hp; exact (List.mem_append.1 hp).elim (h.hold p) (ih p)

def C.isCut:C→Bool
  | .cut _ _ _=>true
  | _=>false
theorem C.notCut {c:C} (h:c.isCut=false):∀ r k j,c≠.cut r k j:=by
  intro r k j e; subst e; simp [C.isCut] at h

def nodupB:List Id→Bool
  | []=>true
  | a::l=>!(l.contains a)&&nodupB l
theorem nodupB_ok:∀ {l:List Id},nodupB l=true→l.Nodup
  | [],_=>.nil
  | a::l,h=>by
    simp only [nodupB,Bool.and_eq_true,Bool.not_eq_true',List.contains_eq_mem,decide_eq_false_iff_not] at h
    exact List.nodup_cons.2 ⟨h.1,nodupB_ok h.2⟩
def shB (l:Sh):Bool:=l.all fun p=>p.1||p.2 == 1
theorem shB_ok {l:Sh} (h:shB l=true):∀ p∈l,p.1=false→p.2=1:=by
  intro p hp hb
  have:=List.all_eq_true.1 h p hp
  simpa [hb] using this

section
variable {P:Program} {n:Nat} {ops:Array Oper} {l:List Oper} {k:Nat} {s:St} {fps:List FP} {K:St→Prop} {o:Oper}
variable {gs:List (Nat × SV)} (hg:Let n ops o s gs) (hd:dstB o n=true)
include hg hd

theorem Seg.len {t0 e sz:Nat} {it:TI} {x:Operand} {c:C} {els:List (List D)} {pre:Objs} {z:Int} (ht:TyOk P t0 it) (hk:it.k=.sl e) (h:o.op=.call { callee:=.builtin .len,args:=#[x],argTypes:=#[t0] }) (hx:s.eval x=.one c) (hE:Els s sz c els pre) (hz:(els.length:Int)=z)
    {fp:FP} (hfp:(⟨(gs++preOf s x).map (·.1),o.dst,pre.map (·.1),[]⟩:FP)=fp) (t:Seg P n ops l (k+1) (s.putO o.dst (.one (.d (.v (.int .i64 z))))) fps K):Seg P n ops (o::l) k s (fp::fps) K:=by
  subst hfp
  exact Seg.op hg hd (.len k s ht hk h hx hE) (pre_self s x) hE.hold (by subst hz; exact t)
theorem Seg.lenStr {t0:Nat} {it:TI} {x:Operand} {b:ByteArray} {z:Int} (ht:TyOk P t0 it) (hk:it.k=.str) (h:o.op=.call { callee:=.builtin .len,args:=#[x],argTypes:=#[t0] }) (hx:(s.eval x).plain=some (.string b)) (hz:(b.size:Int)=z)
    {fp:FP} (hfp:(⟨(gs++preOf s x).map (·.1),o.dst,[],[]⟩:FP)=fp) (t:Seg P n ops l (k+1) (s.putO o.dst (.one (.d (.v (.int .i64 z))))) fps K):Seg P n ops (o::l) k s (fp::fps) K:=by
  subst hfp
  exact Seg.op hg hd (.lenStr k s ht hk h hx) (pre_self s x) (by simp) (by subst hz; exact t)
theorem Seg.indexAddr {t0 e:Nat} {it ie:TI} {x y:Operand} {c c':C} {els:List (List D)} {pre:Objs} {k1:IntKind} {i:Int} {el:List D} (j:Nat) (ht:TyOk P t0 it) (hk:it.k=.sl e) (he:TyOk P e ie) (h0:Nat.blt 0 ie.size=true)
    (h:o.op=.indexAddr t0 x y) (hx:s.eval x=.one c) (hE:Els s ie.size c els pre) (hcut:c.isCut=false) (hy:(s.eval y).plain=some (.int k1 i)) (hi:i=(j:Int)) (hel:els[j]?=some el) (hc:c.elem j el=c') {fp:FP} (hfp:(⟨(gs++(preOf s x++preOf s y)).map (·.1),o.dst,pre.map (·.1),[]⟩:FP)=fp) (t:Seg P n ops l (k+1) (s.putO o.dst (.one c')) fps K) :
    Seg P n ops (o::l) k s (fp::fps) K:=by
  subst hfp
  exact Seg.op hg hd (.indexAddr k s ht hk he (by simpa using h0) h hx hE (C.notCut hcut) hy (by omega) (by subst hi; simpa using hel)) (app_self (pre_self s x) (pre_self s y)) hE.hold (by subst hi; simp only [Int.toNat_natCast]; rw [hc]; exact t)
theorem Seg.indexStr {t0:Nat} {it:TI} {x y:Operand} {b:ByteArray} {k1:IntKind} {i:Int} {q:UInt8} {z:Int} (j:Nat) (ht:TyOk P t0 it) (hk:it.k=.str) (h:o.op=.index t0 x y) (hx:(s.eval x).plain=some (.string b)) (hy:(s.eval y).plain=some (.int k1 i)) (hi:i=(j:Int)) (hq:b[j]?=some q)
    (hz:(q.toNat:Int)=z) {fp:FP} (hfp:(⟨(gs++(preOf s x++preOf s y)).map (·.1),o.dst,[],[]⟩:FP)=fp) (t:Seg P n ops l (k+1) (s.putO o.dst (.one (.d (.v (.int .u8 z))))) fps K):Seg P n ops (o::l) k s (fp::fps) K:=by
  subst hfp
  exact Seg.op hg hd (.indexStr k s ht hk h hx hy (by omega) (by subst hi; simpa using hq)) (app_self (pre_self s x) (pre_self s y)) (by simp) (by subst hz; exact t)
theorem Seg.append {t0 e sz d:Nat} {it ie:TI} {x y:Operand} {c c2:C} {r:Id} {l1 l2 l3:List (List D)} {pre pre2 ks:Objs} (ht:TyOk P t0 it) (hk:it.k=.sl e) (he:ZOk P e ie) (hsz:ie.size=sz) (h0:Nat.blt 0 sz=true) (hz:ie.zero.length=ie.size) (hb0:Nat.blt 0 ie.bytes=true)
    (h:o.op=.call { callee:=.builtin .append,args:=#[x,y],argTypes:=#[t0,t0] }) (hd':o.dst=some d) (hx:s.eval x=.one c) (hy:s.eval y=.one c2) (h1:Onto s d e sz c r l1 pre) (h2:From s sz c2 l2 pre2 ks) (hrk:(idsOf ks).contains r=false)
    (hbytes:(l1.length+l2.length) * ie.bytes≤140737488355328) (hl:l1++l2=l3) {s':St} (hs':s.upds (updOf r (idsOf ks) (k,k,.row e sz l3))=s') {fp:FP} (hfp:(⟨(gs++(preOf s x++preOf s y)).map (·.1),o.dst,(pre++pre2).map (·.1),(updOf r (idsOf ks) (k,k,.row e sz l3)).map (·.1)⟩:FP)=fp) (t:Seg P n ops l (k+1) (s'.put d (.one (.ref r k))) fps K) :
    Seg P n ops (o::l) k s (fp::fps) K:=by
  subst hfp
  subst hl hs'
  refine Seg.op hg hd (.append k s ht hk he hsz (by simpa using h0) hz (by simpa using hb0) h hd' hx hy h1 h2 (by simpa using hrk) hbytes) (app_self (pre_self s x) (pre_self s y)) (fun p hp=>(List.mem_append.1 hp).elim (h1.hold p) (h2.hold p)) ?_
  rw [hd']; exact t
theorem Seg.buildSlice {t0 e len d:Nat} {it ie:TI} {ps:List (Nat × Operand)} {pc:List (Nat × List C)} {out:List C} {els:List (List D)} {ks:Objs} (ht:TyOk P t0 it) (hk:it.k=.sl e) (he:ZOk P e ie) (hz:ie.zero.length=ie.size) (h0:Nat.blt 0 ie.size=true)
    (h:o.op=.buildSlice t0 len ps.toArray) (hd':o.dst=some d) (hsmall:Nat.ble (len * ie.size) 16777216=true) (hp:partsC s ps=some pc) (hf:fillC (fun i=>some (i * ie.size,ie.size)) (zerosC ie len) pc=some out) (hl:els.length=len) (hlen:∀ el∈els,el.length=ie.size)
    (hfit:FitsL s out els.flatten ks) (hnd:nodupB (idsOf ks)=true) {s':St} (hs':s.upds (updOf [d] (idsOf ks) (k,k,.row e ie.size els))=s') {fp:FP} (hfp:(⟨(gs++preOfs s (ps.map (·.2))).map (·.1),o.dst,ks.map (·.1),(updOf [d] (idsOf ks) (k,k,.row e ie.size els)).map (·.1)⟩:FP)=fp) (t:Seg P n ops l (k+1) (s'.put d (.one (.ref [d] k))) fps K) :
    Seg P n ops (o::l) k s (fp::fps) K:=by
  subst hfp
  subst hs'
  refine Seg.op hg hd (.buildSlice k s ht hk he hz (by simpa using h0) h hd' (by simpa using hsmall) hp hf hl hlen hfit (nodupB_ok hnd)) (pres_self s _) hfit.hold ?_
  rw [hd']; exact t
theorem Seg.makeSlice {t0 e d n0:Nat} {it ie:TI} {x y:Operand} {k1 k2:IntKind} {els:List (List D)} (ht:TyOk P t0 it) (hk:it.k=.sl e) (he:ZOk P e ie) (hz:ie.zero.length=ie.size) (h:o.op=.makeSlice t0 x y) (hd':o.dst=some d) (hx:s.eval x=.one (.d (.v (.int k1 n0))))
    (hy:s.eval y=.one (.d (.v (.int k2 n0)))) (hb:ie.bytes * n0≤281474976710656) (hn0:n0≤9223372036854775807) (hels:List.replicate n0 (ie.zero.map .v)=els) {fp:FP} (hfp:(⟨(gs++(preOf s x++preOf s y)).map (·.1),o.dst,[],[[d]]⟩:FP)=fp) (t:Seg P n ops l (k+1) ((s.obj [d] (some (k,k,.row e ie.size els))).put d (.one (.ref [d] k))) fps K) :
    Seg P n ops (o::l) k s (fp::fps) K:=by
  subst hfp
  subst hels
  refine Seg.op hg hd (.makeSlice k s ht hk he hz h hd' hx hy hb hn0) (app_self (pre_self s x) (pre_self s y)) (by simp) ?_
  rw [hd']; exact t
theorem Seg.storeE {t0:Nat} {i:TI} {x y:Operand} {r:Id} {k0 m0 j off e sz:Nat} {els els':List (List D)} {el xs:List D} {cl:List C} {ks:Objs} (ht:TyOk P t0 i) (h:o.op=.store t0 x y) (hd':o.dst=none) (hx:s.eval x=.one (.eptr r k0 j off)) (hH:s.H r=some (k0,m0,.row e sz els))
    (hj:els[j]?=some el) (hy:(s.eval y).cells=some cl) (hl:cl.length=i.size) (hf:FitsL s cl xs ks) (hnd:nodupB (r::idsOf ks)=true) (hoff:off+xs.length≤el.length) (hels:els.set j (spl el off xs)=els') {s':St}
    (hs':s.upds (updOf r (idsOf ks) (k0,k,.row e sz els'))=s') {fp:FP} (hfp:(⟨(gs++(preOf s x++preOf s y)).map (·.1),none,r::ks.map (·.1),(updOf r (idsOf ks) (k0,k,.row e sz els')).map (·.1)⟩:FP)=fp) (t:Seg P n ops l (k+1) s' fps K):Seg P n ops (o::l) k s (fp::fps) K:=by
  subst hfp
  subst hels hs'
  obtain ⟨h1,h2⟩:=List.nodup_cons.1 (nodupB_ok hnd)
  have:=Seg.op (l:=l) (fps:=fps) (K:=K) hg hd (.storeE k s ht h hd' hx (m0:=m0) (e:=e) (sz:=sz) hj hy hl hf h2 h1 hoff) (app_self (pre_self s x) (pre_self s y)) (fun p hp=>by
    rcases List.mem_cons.1 hp with hp | hp
    · subst hp; exact hH
    · exact hf.hold p hp) (by rw [hd']; exact t)
  rw [hd'] at this
  exact this
theorem Seg.slice {t0 e:Nat} {it ie:TI} {x:Operand} {lo hi:Option Operand} {lv hv m:Nat} {c c':C} {els:List (List D)} {pre:Objs} (ht:TyOk P t0 it) (hk:it.k=.sl e) (he:TyOk P e ie) (h:o.op=.slice t0 x lo hi none) (hx:s.eval x=.one c) (hE:Els s ie.size c els pre)
    (hcut:c.isCut=false) (hm:∀ r k',c=.ref r k'→∃ o',(r,(k',m,o'))∈pre) (hlo:Bnd s lo 0 lv) (hhi:Bnd s hi els.length hv) (h1:lv≤hv) (h2:hv≤els.length) (hc:c.cutted e ie.size els lo lv hv m=c') {fp:FP} (hfp:(⟨(gs++(preOf s x++(preOp s lo++preOp s hi))).map (·.1),o.dst,pre.map (·.1),[]⟩:FP)=fp) (t:Seg P n ops l (k+1) (s.putO o.dst (.one c')) fps K) :
    Seg P n ops (o::l) k s (fp::fps) K:=by
  subst hfp
  exact Seg.op hg hd (.slice k s ht hk he h hx hE (C.notCut hcut) hm hlo hhi h1 h2) (app_self (pre_self s x) (app_self (preOp_self s lo) (preOp_self s hi))) hE.hold (by rw [hc]; exact t)
theorem Seg.call {c:Call} {fo:Operand} {f:FuncId} {fsh sh rsh shT:Sh} {fcs cs caps:List C} {ds outs:List D} {aft:List (Nat × D)} {gs':List (List Id)} {nl nla:List NL} {fz:List Bool} (R:List Id) (preH:Objs) (hT:Trip P f shT ds rsh outs aft) (h:o.op=.call c)
    (hfo:c.callee=.value fo) (hf:calleeC (s.eval fo)=some (f,fsh,fcs,caps)) (ha:argsC s c.args.toList=some (sh,cs)) (hsh:fsh++sh++caps.map (fun _=>(false,1))=shT) (hgv:Given R preH (fcs++cs++caps) ds gs') (hgn:nodupB gs'.flatten=true)
    (hRK:(R.all fun r=>!gs'.flatten.contains r)=true) (hA:R≠[]→∀ d∈outs++aft.map (·.2),Owned d) (hh:Held k outs nl fz) (hkp:Kept k gs'.flatten preH (fcs++cs++caps) aft nla) (hnd:nodupB (idsOf (objsOf k (nl++nla)))=true) (hrt:rsh.total=outs.length)
    (hrp:shB rsh=true) (hH:∀ p∈preH,s.H p.1=some p.2) {s':St} (hs':s.upds (updMany gs'.flatten (objsOf k (nl++nla)))=s') {v:SV} (hv:resSV rsh (nl.map (NL.cell k))=v) {fp:FP} (hfp:(⟨(gs++(preOf s fo++preOfs s c.args.toList)).map (·.1),o.dst,preH.map (·.1),(updMany gs'.flatten (objsOf k (nl++nla))).map (·.1)⟩:FP)=fp) (t:Seg P n ops l (k+1) (s'.putO o.dst v) fps K) :
    Seg P n ops (o::l) k s (fp::fps) K:=by
  subst hfp
  subst hs' hv hsh
  refine Seg.op hg hd (.call k s R preH hT h hfo hf ha hgv (nodupB_ok hgn) (fun r hr=>?_) hA hh hkp (nodupB_ok hnd) hrt (shB_ok hrp)) (app_self (pre_self s fo) (pres_self s _)) hH t
  have:=List.all_eq_true.1 hRK r hr
  simpa using this
end

theorem Reads.ptr {R:List Id} {preH:Objs} {r:Id} {k m off:Nat} {cells:List C} {ds:List D} (hH:(r,(k,m,.box cells))∈preH) (hR:r∈R) (hl:cells.length=ds.length) (hg:∀ (i:Nat) (c:C) (d:D),cells[i]?=some c→ds[i]?=some d→Reads R preH c d) :
    Reads R preH (.ptr r k off) (.pt false (ds.drop off)):=fun w M n I s a u hr hp hc=>by
  have hx:I.H r=some (k,m,.box cells):=by rw [hr.hH]; exact hp _ hH
  cases hc with
  | ptr _ _ _ g hu h =>
    obtain ⟨g',us,t,h1,h2,h3,h4,h5⟩:=(hr.objs r k m _ hx).2.2
    have e:=(h m _ hx).symm.trans h1
    simp only [Value.pointer.injEq,Option.some.injEq,Addr.mk.injEq,and_true] at e
    subst e
    refine .pt _ _ (fun i=>us.getD (off+i) undef) ?_ ?_
    · intro i d hd
      rw [List.getElem?_drop] at hd
      refine ⟨zone_of hx hR h2,?_⟩
      rw [at_plain]
      have hlt:off+i < us.size:=by rw [h4,hl]; exact (List.getElem?_eq_some_iff.1 hd).1
      simp [World.cell?,h3,hlt]
    · intro i d hd
      rw [List.getElem?_drop] at hd
      have hlt:off+i < cells.length:=by rw [hl]; exact (List.getElem?_eq_some_iff.1 hd).1
      exact hg (off+i) _ d (List.getElem?_eq_getElem hlt) hd w M n I s a _ hr hp (h5 _ _ (List.getElem?_eq_getElem hlt))

/-! ### states by their live slots and objects -/
def St.of (A:List (Nat × SV)) (B:Objs):St:=⟨fun i=>(A.lookup i).getD .bad,fun q=>B.lookup q⟩
inductive AllS (s:St):List (Nat × SV)→Prop where
  | nil:AllS s []
  | cons {i:Nat} {v:SV} {l:List (Nat × SV)} (h:s.slots i=v) (t:AllS s l):AllS s ((i,v)::l)
inductive AllH (s:St):Objs→Prop where
  | nil:AllH s []
  | cons {q:Id} {x:Nat × Nat × O} {l:Objs} (h:s.H q=some x) (t:AllH s l):AllH s ((q,x)::l)
theorem lookup_mem' {A:List (Nat × SV)}:∀ {i:Nat} {v:SV},A.lookup i=some v→(i,v)∈A:=by
  induction A with
  | nil=>intro i v h; simp [List.lookup] at h
  | cons p l ih =>
    intro i v h
    obtain ⟨p1,p2⟩:=p
    by_cases e:i=p1
    · subst e; simp [List.lookup] at h; subst h; simp
    · rw [List.lookup,show (i == p1)=false by simpa using e] at h
      exact List.mem_cons_of_mem _ (ih h)
theorem AllS.get {s:St} {A:List (Nat × SV)} (h:AllS s A):∀ p∈A,s.slots p.1=p.2:=by
  induction h with
  | nil=>simp
  | cons h _ ih=>intro p hp; exact (List.mem_cons.1 hp).elim (fun e=>by subst e; exact h) (ih p)
theorem AllH.get {s:St} {A:Objs} (h:AllH s A):∀ p∈A,s.H p.1=some p.2:=by
  induction h with
  | nil=>simp
  | cons h _ ih=>intro p hp; exact (List.mem_cons.1 hp).elim (fun e=>by subst e; exact h) (ih p)
theorem Le.of {s:St} {A:List (Nat × SV)} {B:Objs} (ha:AllS s A) (hb:AllH s B):Le s (.of A B) where
  slots:=fun i=>by
    show ((A.lookup i).getD .bad=_)∨_
    cases h:A.lookup i with
    | none=>exact .inr (by simp [St.of,h])
    | some v=>exact .inl (ha.get (i,v) (lookup_mem' h)).symm
  H:=fun q=>by
    show B.lookup q=_∨_
    cases h:B.lookup q with
    | none=>exact .inr h
    | some v=>exact .inl (hb.get (q,v) (mem_lookup h)).symm

section
variable {P:Program} {n:Nat} {s:St} {Q:Exit→St→Prop} {ops:Array Oper}
theorem Seg.fin {l0:Nat} {X:Type} {post:X→St} (x:X) (h:Le s (post x)):Seg P n ops [] l0 s [] (fun s'=>Ent s' fun s''=>∃ x,s''=post x):=.nil (.le h ⟨x,rfl⟩)
theorem Wp.reg {id:Nat} {X:Type} (post:X→St) (fps:List FP) (h:∀ k,Seg P n ops ops.toList k s fps (fun s'=>Ent s' fun s''=>∃ x,s''=post x)) (t:∀ x,Q .normal (post x)):Wp P n (.region id ops false) s Q:=fun w M U a W k0 hf hr=>by
  have h1:Wp P n (.region id ops false) s (fun e s'=>e=.normal∧Ent s' fun s''=>∃ x,s''=post x):=.region fun k=>by
    obtain ⟨xs,s',h1,_,h3⟩:=h k
    exact ⟨xs,s',h1,rfl,h3⟩
  refine wp_mono (h1 w M U a W k0 hf hr) fun e a' W' ⟨U',k',s',g1,g2,g3,g4⟩=>?_
  subst g3
  obtain ⟨U2,k2,s2,f1,f2,x,rfl⟩:=g4 w M n U' a' W' k' g1 g2
  exact ⟨U2,k2,_,f1,f2,t x⟩
theorem Wp.regD {id:Nat} {X:Type} (hm:P.follows .mixedOrders=true) (post:X→St) (fps:List FP) (hB:orderB (afters ops.toList) fps=true) (h:∀ k,Seg P n ops ops.toList k s fps (fun s'=>Ent s' fun s''=>∃ x,s''=post x)) (t:∀ x,Q .normal (post x)) :
    Wp P n (.region id ops true) s Q:=fun w M U a W k0 hf hr=>by
  have h1:Wp P n (.region id ops true) s (fun e s'=>e=.normal∧Ent s' fun s''=>∃ x,s''=post x):=.draw hm fun k=>by
    obtain ⟨xs,s',h1,h2,h3⟩:=h k
    exact ⟨xs,s',h1,orderB_mono h2 hB,rfl,h3⟩
  refine wp_mono (h1 w M U a W k0 hf hr) fun e a' W' ⟨U',k',s',g1,g2,g3,g4⟩=>?_
  subst g3
  obtain ⟨U2,k2,s2,f1,f2,x,rfl⟩:=g4 w M n U' a' W' k' g1 g2
  exact ⟨U2,k2,_,f1,f2,t x⟩
end
end Go.Ev

namespace Go.Ev
variable [Lay]

theorem Ent.here {s:St} {X:Type} {inv:X→St} {F:X→Prop} (x:X) (h:Le s (inv x)) (hF:F x):Ent s fun s'=>∃ x,F x∧s'=inv x:=.le h ⟨x,hF,rfl⟩

theorem Ent.nilRow {s:St} {K:St→Prop} (t:Nat) (r:Id) (e sz:Nat) (hs:s.slots t=.one (.d (.v (.slice none 0 0)))) (h:∀ k,Ent ((s.obj r (some (k,k,.row e sz []))).put t (.one (.ref r k))) K):Ent s K:=fun w M n U a W k hf hr=>by
  obtain ⟨I,hW,hU,hI⟩:=hr
  subst hW hU
  have hk:¬ I.U k:=hf k (Nat.le_refl _)
  have hv:a.tmps.getD t undef=.slice none 0 0:=by
    have h1:=hI.slots t
    rw [hs] at h1
    exact SV.plain_ok (s:=.one (.d (.v (.slice none 0 0)))) rfl h1
  let J:In:={ I with U:=fun m=>I.U m∨m=k,hd:=up I.hd r (.slice none 0 0),S:=fun q=>if q=r then fun _=>False else I.S q,H:=fun q=>if q=r then some (k,k,.row e sz []) else I.H q }
  have c:Chg (fun q=>q=r) I J:=by
    refine { same:=fun q hq=>⟨if_neg hq,if_neg hq,if_neg hq⟩,z:=fun _ h=>h,u:=fun _ h=>.inl h,ext:=.refl _ _,stamps:=?_,sets:=?_,disj:=?_,zone:=fun b hb=>⟨hI.zone b hb,.inl hb⟩ }
    · intro q k' m o hq ho
      have:J.H q=some (k,k,.row e sz []):=if_pos hq
      rw [this] at ho
      simp only [Option.some.injEq,Prod.mk.injEq] at ho
      obtain ⟨rfl,rfl,_⟩:=ho
      exact ⟨hk,.inr rfl,.inr rfl,.inl hk⟩
    · intro q x hq _ b hb
      have:J.S q=fun _=>False:=if_pos hq
      rw [this] at hb; exact hb.elim
    · intro q q' _ _ hne hq hq'
      exact absurd (hq.trans hq'.symm) hne
  have hJ:RelI w M n J (s.obj r (some (k,k,.row e sz []))) a:=hI.chg c (by funext q; show (if q=r then _ else I.H q)=(if q=r then _ else s.H q); rw [hI.hH]) rfl fun q k' m o hq ho=>by
    have h1:J.H q=some (k,k,.row e sz []):=if_pos hq
    rw [h1] at ho
    simp only [Option.some.injEq,Prod.mk.injEq] at ho
    obtain ⟨_,_,rfl⟩:=ho
    show Ow _ _ _ _ (J.hd q)
    have h2:J.hd q=.slice none 0 0:=if_pos hq
    rw [h2]; exact .nil _ _ _ _ _
  have hJ2:RelI w M n J ((s.obj r (some (k,k,.row e sz []))).put t (.one (.ref r k))) a :=
    { hJ with
      hH:=hJ.hH
      slots:=fun i=>by
        by_cases e0:i=t
        · subst e0
          have e1:((s.obj r (some (k,k,.row e sz []))).put i (.one (.ref r k))).slots i=.one (.ref r k):=if_pos rfl
          rw [e1,hv]
          refine .one _ _ (.ref r k _ (.inr rfl) rfl fun m o _=>?_)
          show _=up I.hd r _ r
          rw [up_same]
        · have e1:((s.obj r (some (k,k,.row e sz []))).put t (.one (.ref r k))).slots i=(s.obj r (some (k,k,.row e sz []))).slots i:=if_neg e0
          rw [e1]; exact hJ.slots i }
  exact h k w M n _ a I.W (k+1) (fun m hm hU=>hU.elim (hf m (by omega)) (fun h=>by omega)) ⟨J,rfl,rfl,hJ2⟩

def Sat (d:D):Prop:=∃ (W:World) (Z:Nat→Prop) (u:Value),Rd W Z d u
theorem Sat.len {e sz:Nat} {l:List (List D)} (h:Sat (.sl false e sz l)):l.length≤maxLen:=by
  obtain ⟨_,_,_,h⟩:=h
  cases h; assumption
theorem Wp.sat {P:Program} {n:Nat} {c:Code} {s:St} {Q:Exit→St→Prop} {t:Nat} {x:D} (hs:s.slots t=.one (.d x)) (h:Sat x→Wp P n c s Q):Wp P n c s Q:=fun w M U a W k hf hr=>by
  have h1:Sat x:=by
    obtain ⟨I,_,_,hI⟩:=hr
    have h1:=hI.slots t
    rw [hs] at h1
    cases h1 with | one _ _ h1=>cases h1 with | d _ _ h1=>exact ⟨_,_,_,h1⟩
  exact h h1 w M U a W k hf hr
theorem Wp.satA {P:Program} {n:Nat} {c:Code} {s:St} {Q:Exit→St→Prop} {t i:Nat} {l:List C} {x:D} (hs:s.slots t=.agg l) (hi:l[i]?=some (.d x)) (h:Sat x→Wp P n c s Q):Wp P n c s Q:=fun w M U a W k hf hr=>by
  have h1:Sat x:=by
    obtain ⟨I,_,_,hI⟩:=hr
    have h1:=hI.slots t
    rw [hs] at h1
    generalize a.tmps.getD t undef=u at h1
    cases h1 with | agg _ us hsz h1=>cases h1 i _ hi with | d _ _ h1=>exact ⟨_,_,_,h1⟩
  exact h h1 w M U a W k hf hr
theorem Sat.maplen {α:Type} {e sz:Nat} {f:α→List D} {L:List α} (h:Sat (.sl false e sz (List.map f L))):L.length≤maxLen:=by simpa using h.len
theorem wrap_le {a:Int} (h0:-9223372036854775808≤a) (h1:a≤9223372036854775807):IntKind.wrap .i64 a=a:=by
  simp only [IntKind.wrap]
  have:IntKind.bits .i64=64:=rfl
  simp [IntKind.signed,this]
  omega
def allTo (n:Nat) (f:Nat→Bool):Bool:=(List.range n).all f
theorem allTo_step {j:Nat} {f:Nat→Bool} (h:allTo j f=true) (hj:f j=true):allTo (j+1) f=true:=by
  simp only [allTo,List.range_succ,List.all_append,Bool.and_eq_true] at h ⊢
  exact ⟨h,by simpa using hj⟩
theorem allTo_fail {n j:Nat} {f:Nat→Bool} (hj:j < n) (h:f j=false):allTo n f=false:=by
  simp only [allTo,List.all_eq_false,List.mem_range]
  exact ⟨j,hj,by simp [h]⟩
theorem allTo_iff {n:Nat} {f:Nat→Bool}:allTo n f=true↔∀ i,i < n→f i=true:=by
  simp [allTo,List.all_eq_true]
def all2 {α β:Type} [Inhabited α] [Inhabited β] (p:α→β→Bool) (a:List α) (b:List β):Bool:=a.length == b.length&&allTo a.length fun i=>p (a.getD i default) (b.getD i default)
theorem all2_ne {α β:Type} [Inhabited α] [Inhabited β] (p:α→β→Bool) {a:List α} {b:List β} (h:¬ (a.length:Int)=b.length):all2 p a b=false:=by
  have:(a.length == b.length)=false:=by simp; omega
  simp [all2,this]
theorem all2_fail {α β:Type} [Inhabited α] [Inhabited β] (p:α→β→Bool) {a:List α} {b:List β} {j:Nat} (hj:j < a.length) (h:p (a.getD j default) (b.getD j default)=false):all2 p a b=false:=by
  have:=allTo_fail (f:=fun i=>p (a.getD i default) (b.getD i default)) hj h
  simp only [all2,this,Bool.and_false]
theorem all2_done {α β:Type} [Inhabited α] [Inhabited β] (p:α→β→Bool) {a:List α} {b:List β} (h:a.length=b.length) (h2:allTo a.length (fun i=>p (a.getD i default) (b.getD i default))=true):all2 p a b=true:=by
  simp only [all2,h2,Bool.and_true,beq_iff_eq]; exact h
theorem svI {k:IntKind} {a b:Int} (h:a=b):SV.one (C.d (D.v (Value.int k a)))=SV.one (C.d (D.v (Value.int k b))):=by rw [h]
theorem svB {a b:Bool} (h:a=b):SV.one (C.d (D.v (Value.bool a)))=SV.one (C.d (D.v (Value.bool b))):=by rw [h]
theorem rowE {k m e sz:Nat} {l l':List (List D)} (h:l=l'):some (k,m,O.row e sz l)=some (k,m,O.row e sz l'):=by rw [h]
theorem map_get {α:Type} [Inhabited α] {c:α→List D} {L:List α} {j:Nat} (h:j < L.length):(List.map c L)[j]?=some (c (L.getD j default)):=by
  rw [List.getElem?_map,List.getElem?_eq_getElem h,List.getD_eq_getElem?_getD,List.getElem?_eq_getElem h]; rfl
theorem map_len {α β:Type} (f:α→β) (l:List α):((List.map f l).length:Int)=(l.length:Int):=by simp
theorem map_snoc {α β:Type} (f:α→β) (l:List α) (x:α):List.map f l++[f x]=List.map f (l++[x]):=by simp
theorem map_app {α β:Type} (f:α→β) (l m:List α):List.map f l++List.map f m=List.map f (l++m):=by simp
theorem min_of (i j:Int):(if j < i then j else i)=min i j:=by omega
theorem max_of (i j:Int):(if j > i then j else i)=max i j:=by omega
theorem eq1 {α β:Type} (f:α→β) {a b:α} (h:a=b):f a=f b:=by rw [h]
theorem eq2 {α α2 β:Type} (f:α→α2→β) {a b:α} {a2 b2:α2} (h:a=b) (h2:a2=b2):f a a2=f b b2:=by rw [h,h2]
end Go.Ev

namespace Go.Ev
variable [Lay]

inductive ReadsL (R:List Id) (preH:Objs):List C→List D→Prop where
  | nil:ReadsL R preH [] []
  | cons {c:C} {d:D} {cs:List C} {ds:List D} (h:Reads R preH c d) (t:ReadsL R preH cs ds):ReadsL R preH (c::cs) (d::ds)
section
variable {R:List Id} {preH:Objs}
theorem ReadsL.get {cs:List C} {ds:List D} (h:ReadsL R preH cs ds):cs.length=ds.length∧∀ (i:Nat) (c:C) (d:D),cs[i]?=some c→ds[i]?=some d→Reads R preH c d:=by
  induction h with
  | nil=>exact ⟨rfl,by simp⟩
  | cons h _ ih =>
    refine ⟨by simp [ih.1],fun i c' d' hc hd=>?_⟩
    cases i with
    | zero=>simp at hc hd; subst hc; subst hd; exact h
    | succ i=>exact ih.2 i c' d' (by simpa using hc) (by simpa using hd)
theorem Reads.clo0 {f:FuncId} {caps:List C} {caps':List D} (h:ReadsL R preH caps caps'):Reads R preH (.clo f [] caps) (.fn f [] caps'):=.clo rfl h.get.1 (by simp) h.get.2
theorem Reads.clo1 {f:FuncId} {b:Bool} {first caps:List C} {first' caps':List D} (h1:ReadsL R preH first first') (h:ReadsL R preH caps caps'):Reads R preH (.clo f [(b,first)] caps) (.fn f [(b,first')] caps') :=
  .clo (by simp [h1.get.1]) h.get.1 (fun i x y j c d hx hy hc hd=>by
    cases i with
    | zero=>simp at hx hy; subst hx; subst hy; exact h1.get.2 j c d hc hd
    | succ i=>simp at hx) h.get.2
theorem Reads.ptr0 {r:Id} {k m:Nat} {cells:List C} {ds:List D} (hH:(r,(k,m,.box cells))∈preH) (hR:r∈R) (h:ReadsL R preH cells ds):Reads R preH (.ptr r k 0) (.pt false ds):=by
  have:=Reads.ptr (off:=0) hH hR h.get.1 h.get.2
  simpa using this
end

def FnTrip (P:Program) (F:FuncId) (first:List (Bool × List D)) (caps:List D) (sh:Sh) (ds:List D) (rsh:Sh) (outs:List D):Prop :=
  Trip P F (first.map (fun x=>(x.1,x.2.length))++sh++caps.map (fun _=>(false,1))) (first.flatMap (·.2)++ds++caps) rsh outs []

theorem Given.dmap {R:List Id} {preH:Objs}:∀ (l:List D),Given R preH (l.map .d) l (l.map fun _=>[])
  | []=>.nil
  | x::l=>.cons (Reads.d x).gives (Given.dmap l)
theorem dmap_flatten (l:List D):(l.map fun _=>([]:List Id)).flatten=[]:=by
  induction l with
  | nil=>rfl
  | cons x l ih=>simpa using ih

section
variable {P:Program} {n:Nat} {ops:Array Oper} {l:List Oper} {k:Nat} {s:St} {fps:List FP} {K:St→Prop} {o:Oper}
variable {gs:List (Nat × SV)} (hg:Let n ops o s gs) (hd:dstB o n=true)
include hg hd

theorem Seg.callF {c:Call} {fo:Operand} {F:FuncId} {first:List (Bool × List D)} {caps ds outs:List D} {sh rsh:Sh} {nl:List NL} {fz:List Bool} (hT:FnTrip P F first caps sh ds rsh outs) (h:o.op=.call c) (hfo:c.callee=.value fo) (hf:s.eval fo=.one (.d (.fn F first caps)))
    (ha:argsC s c.args.toList=some (sh,ds.map .d)) (hh:Held k outs nl fz) (hnd:nodupB (idsOf (objsOf k nl))=true) (hrt:rsh.total=outs.length) (hrp:shB rsh=true) {s':St} (hs':s.upds (updMany [] (objsOf k nl))=s') {v:SV} (hv:resSV rsh (nl.map (NL.cell k))=v)
    {fp:FP} (hfp:(⟨(gs++(preOf s fo++preOfs s c.args.toList)).map (·.1),o.dst,[],(updMany [] (objsOf k nl)).map (·.1)⟩:FP)=fp) (t:Seg P n ops l (k+1) (s'.putO o.dst v) fps K):Seg P n ops (o::l) k s (fp::fps) K:=by
  have e:((first.flatMap (·.2)).map C.d++ds.map C.d++caps.map C.d)=(first.flatMap (·.2)++ds++caps).map C.d:=by simp
  have hfl:=dmap_flatten (first.flatMap (·.2)++ds++caps)
  have hT':Trip P F (first.map (fun x=>(x.1,x.2.length))++sh++(caps.map C.d).map (fun _=>(false,1))) (first.flatMap (·.2)++ds++caps) rsh outs []:=by
    rw [List.map_map]; exact hT
  refine Seg.call hg hd [] [] hT' h hfo (by rw [hf]; rfl) ha rfl (gs':=(first.flatMap (·.2)++ds++caps).map fun _=>[]) (by rw [e]; exact Given.dmap _) (by rw [hfl]; rfl) rfl (fun h=>absurd rfl h) hh .nil (nla:=[]) (by rw [List.append_nil]; exact hnd) hrt hrp (by simp) (s':=s') ?_ hv ?_ t
  · rw [hfl,List.append_nil]; exact hs'
  · rw [hfl,List.append_nil]; exact hfp
end
end Go.Ev

namespace Go.Ev
variable [Lay]

theorem Gives.nil' {R:List Id} {preH:Objs} {m:Bool} {e sz:Nat} {l:List (List D)} (h:l=[]):Gives R preH (.d (.v (.slice none 0 0))) (.sl m e sz l) []:=h ▸ Gives.nil m e sz

theorem nilEq_run {P:Program} {ty:Nat} {it:TI} {e':Nat} (ht:TyOk P ty it) (hk:it.k=.sl e') (x y:Operand) (A:Option Addr) (n c:Nat) (w:World) :
    ((do eqGuard .eql ty x y (.slice A n c) (.slice none 0 0); binOp .eql ty (.slice A n c) (.slice none 0 0)):Sem Value).run P w=.ok (.bool A.isNone) w:=by
  have hu:=ht.und
  rw [hk] at hu
  simp only [TK.ok] at hu
  have key:∀ d,(Op.equalIn (d+1) ty (.slice A n c) (.slice none 0 0)).run P w=.ok A.isNone w:=by
    intro d
    rw [Op.equalIn]
    cases A<;>simp [underlying,hu]
  have hm:Op.maxDepth=(Op.maxDepth - 1)+1:=by decide
  have h2:=key (Op.maxDepth - 1)
  rw [← hm] at h2
  simp [eqGuard,binOp,Op.equal,h2]

theorem Wp.nilEq {P:Program} {n id ty yt t d1 d2 e e' sz:Nat} {it:TI} {s:St} {Q:Exit→St→Prop} {o1 o2:Oper} {l:List (List D)} (ht:TyOk P ty it) (hk:it.k=.sl e') (h1:o1.op=.move (.tmp t)) (g1:o1.guard=none) (e1:o1.dst=some d1) (b1:Nat.blt d1 n=true)
    (h2:o2.op=.binOp .eql ty (.tmp d1) (.const (.slice none 0 0)) yt) (g2:o2.guard=none) (e2:o2.dst=some d2) (b2:Nat.blt d2 n=true) (h0:Nat.blt 0 sz=true) (hs:s.slots t=.one (.d (.sl false e sz l)))
    (h:∀ b,(b=true→l=[])→Q .normal ((s.put d1 (.one (.d (.sl false e sz l)))).put d2 (.one (.d (.v (.bool b)))))):Wp P n (.region id #[o1,o2] false) s Q:=fun w M U a W k hf hr=>by
  obtain ⟨I,hW,hU,hI⟩:=hr
  subst hW hU
  have hd1:d1 < n:=by simpa using b1
  have hd2:d2 < n:=by simpa using b2
  have hsv:=hI.slots t
  rw [hs] at hsv
  have hI1:=hI.put (d:=d1) hd1 (v:=.one (.d (.sl false e sz l))) (u:=a.tmps.getD t undef) hsv
  refine wp_region_list ?_
  show wpList P #[o1,o2] _ [o1,o2] a I.W
  unfold wpList
  rw [if_pos (by simp [Region.wanted,g1])]
  refine .inl ?_
  have hx1:(execOp a.eval o1).run P I.W=.ok (.value (a.tmps.getD t undef)) I.W:=by simp [execOp,h1,Act.eval]
  rw [Oper.wp,hx1,Oper.upon_value,e1]
  unfold wpList
  rw [if_pos (by simp [Region.wanted,g2])]
  refine .inl ?_
  cases hsv with
  | one c u hc =>
    cases hc with
    | d x u hc =>
      generalize hu:a.tmps.getD t undef=u at *
      cases hc with
      | sl _ _ _ A cap val hcap hmax hlen hcell hrd =>
        have hev:(a.put (some d1) (.slice A l.length cap)).eval (.tmp d1)=.slice A l.length cap:=by
          have:=put_getD a d1 d1 (.slice A l.length cap) (by rw [hI.size]; exact hd1)
          rw [if_pos rfl] at this
          exact this
        have hx2:(execOp (a.put (some d1) (.slice A l.length cap)).eval o2).run P I.W=.ok (.value (.bool A.isNone)) I.W:=by
          have:=nilEq_run (P:=P) ht hk (.tmp d1) (.const (.slice none 0 0)) A l.length cap I.W
          simp only [execOp,h2,hev]
          simp only [Sem.run_bind] at this ⊢
          have hc:(a.put (some d1) (.slice A l.length cap)).eval (.const (.slice none 0 0))=.slice none 0 0:=rfl
          rw [hc]
          cases hg:(eqGuard .eql ty (.tmp d1) (.const (.slice none 0 0)) (.slice A l.length cap) (.slice none 0 0)).run P I.W with
          | ok b w1=>rw [hg] at this; simp only [Result.andThen_ok] at this ⊢; rw [this]; rfl
          | halt b w1=>rw [hg] at this; simp at this
        rw [Oper.wp,hx2,Oper.upon_value,e2]
        unfold wpList
        refine ⟨I.U,k,_,hf,⟨I,rfl,rfl,hI1.put (d:=d2) hd2 (v:=.one (.d (.v (.bool A.isNone)))) (u:=.bool A.isNone) (.one _ _ (.d _ _ (.v _ rfl)))⟩,h _ fun hA=>?_⟩
        cases l with
        | nil=>rfl
        | cons el l =>
          have hz:0 < sz:=by simpa using h0
          have hel:=hlen 0 el rfl
          obtain ⟨ad,h3,_⟩:=hcell 0 el 0 el[0] rfl (List.getElem?_eq_getElem (by omega))
          rw [h3] at hA; simp at hA
end Go.Ev

namespace Go.Ev
variable [Lay]

theorem AftOk.nil (ds:List D):AftOk ds []:=fun x hx=>by simp at hx
theorem AftOk.sl {ds:List D} {p e sz:Nat} {l l':List (List D)} {aft:List (Nat × D)} (h:ds[p]?=some (.sl true e sz l)) (t:AftOk ds aft):AftOk ds ((p,.sl true e sz l')::aft):=fun x hx=>by
  rcases List.mem_cons.1 hx with hx | hx
  · subst hx; exact .inr ⟨e,sz,l,l',h,rfl⟩
  · exact t x hx
theorem AftOk.pt {ds:List D} {p:Nat} {l l':List D} {aft:List (Nat × D)} (h:ds[p]?=some (.pt true l)) (t:AftOk ds aft):AftOk ds ((p,.pt true l')::aft):=fun x hx=>by
  rcases List.mem_cons.1 hx with hx | hx
  · subst hx; exact .inl ⟨l,l',h,rfl⟩
  · exact t x hx
theorem ownNil:∀ d∈([]:List D),Owned d:=fun d hd=>by simp at hd
theorem ownCons {d:D} {l:List D} (h:Owned d) (t:∀ d∈l,Owned d):∀ d'∈d::l,Owned d':=fun d' hd=>(List.mem_cons.1 hd).elim (fun e=>e ▸ h) (t d')
theorem Owned.map {α:Type} (e sz:Nat) (c:α→List D) (L:List α) (h:∀ x,∀ d∈c x,Owned d):Owned (.sl true e sz (List.map c L)):=.sl e sz fun el hel=>by
  obtain ⟨x,_,rfl⟩:=List.mem_map.1 hel
  exact h x
theorem set_map {α:Type} (c:α→List D) (L:List α) (j:Nat) (x:α) (el:List D) (h:el=c x):(List.map c L).set j el=List.map c (L.set j x):=by subst h; simp [List.map_set]
theorem rep_map {α:Type} (n:Nat) (c:α→List D) (x:α) {el:List D} (h:el=c x):List.replicate n el=List.map c (List.replicate n x):=by subst h; simp
def fillTo {α:Type} [Inhabited α] (a:List α) (z:α) (j:Nat):List α:=(List.range a.length).map fun i=>if i < j then a.getD i default else z
theorem fillTo_len {α:Type} [Inhabited α] (a:List α) (z:α) (j:Nat):(fillTo a z j).length=a.length:=by simp [fillTo]
theorem fillTo_zero {α:Type} [Inhabited α] (a:List α) (z:α):List.replicate a.length z=fillTo a z 0:=by
  apply List.ext_getElem<;>simp [fillTo]
theorem fillTo_step {α:Type} [Inhabited α] (a:List α) (z x:α) {j:Nat} (hj:j < a.length) (hx:x=a.getD j default):(fillTo a z j).set j x=fillTo a z (j+1):=by
  apply List.ext_getElem
  · simp [fillTo]
  · intro i h1 h2
    simp only [fillTo,List.getElem_set,List.getElem_map,List.getElem_range]
    by_cases e:j=i
    · subst e; simp [hx]
    · rw [if_neg e]
      by_cases h3:i < j
      · rw [if_pos h3,if_pos (by omega)]
      · rw [if_neg h3,if_neg (by omega)]
theorem fillTo_all {α:Type} [Inhabited α] (a:List α) (z:α) {j:Nat} (hj:a.length≤j):fillTo a z j=a:=by
  apply List.ext_getElem
  · simp [fillTo]
  · intro i h1 h2
    simp only [fillTo,List.getElem_map,List.getElem_range]
    rw [if_pos (by omega)]
    simp [List.getD_eq_getElem?_getD,h2]
end Go.Ev

namespace Go.Ev
variable [Lay]

theorem eqB_run {P:Program} {ty:Nat} {it:TI} (ht:TyOk P ty it) (hk:it.k=.bool) (x y:Operand) (a b:Bool) (w:World) :
    ((do eqGuard .eql ty x y (.bool a) (.bool b); binOp .eql ty (.bool a) (.bool b)):Sem Value).run P w=.ok (.bool (a == b)) w ∧
    ((do eqGuard .neq ty x y (.bool a) (.bool b); binOp .neq ty (.bool a) (.bool b)):Sem Value).run P w=.ok (.bool (a != b)) w:=by
  have hu:=ht.und
  rw [hk] at hu
  simp only [TK.ok] at hu
  have key:∀ d,(Op.equalIn (d+1) ty (.bool a) (.bool b)).run P w=.ok (a == b) w:=by
    intro d
    rw [Op.equalIn]
    simp [underlying,hu]
  have hm:Op.maxDepth=(Op.maxDepth - 1)+1:=by decide
  have h2:=key (Op.maxDepth - 1)
  rw [← hm] at h2
  constructor
  · simp [eqGuard,binOp,Op.equal,h2]
  · simp [eqGuard,binOp,Op.equal,h2]; cases a<;>cases b<;>rfl

section
variable {P:Program} {n:Nat} {ops:Array Oper} {l:List Oper} {k:Nat} {s:St} {fps:List FP} {K:St→Prop} {o:Oper}
variable {gs:List (Nat × SV)} (hg:Let n ops o s gs) (hd:dstB o n=true)
include hg hd
theorem Seg.neB {t0 yt:TypeId} {it:TI} {x y:Operand} {a b:Bool} (ht:TyOk P t0 it) (hk:it.k=.bool) (h:o.op=.binOp .neq t0 x y yt) (hx:(s.eval x).plain=some (.bool a)) (hy:(s.eval y).plain=some (.bool b)) {fp:FP}
    (hfp:(⟨(gs++(preOf s x++preOf s y)).map (·.1),o.dst,[],[]⟩:FP)=fp) (t:Seg P n ops l (k+1) (s.putO o.dst (.one (.d (.v (.bool (a != b)))))) fps K):Seg P n ops (o::l) k s (fp::fps) K:=by
  subst hfp
  exact Seg.op hg hd (.bin k s h hx hy rfl fun w=>(eqB_run ht hk x y a b w).2) (app_self (pre_self s x) (pre_self s y)) (by simp) t
end
end Go.Ev

namespace Go.Ev
variable [Lay]

section
variable {P:Program} {o:Oper}
end

theorem Reads.cut {R:List Id} {preH:Objs} {r:Id} {k m e sz j:Nat} {l:List (List D)} {d:D} (hf:Frz (.sl true e sz (l.take j)) d) (hj:j≤l.length) (hH:(r,(k,m,.row e sz l))∈preH) (hK:r∈R):Reads R preH (.cut r k j) d:=fun w M n I s a u hr hp hc=>by
  have hx:I.H r=some (k,m,.row e sz l):=by rw [hr.hH]; exact hp _ hH
  cases hc with
  | cut _ _ _ _ hu h1 h =>
    obtain ⟨A,N,cap,h2,h3,h4⟩:=h m _ hx
    have ho:Ow I.W I.Z (I.S r) (.sl true e sz l) (I.hd r):=(hr.objs r k m _ hx).2.2
    rw [h2] at ho
    rw [h3]
    exact (hf _ _ _ _ (ho.take hj)).mono fun b hb=>hb.elim .inl (zone_of hx hK)
section
variable {P:Program} {n:Nat} {ops:Array Oper} {l:List Oper} {k:Nat} {s:St} {fps:List FP} {K:St→Prop} {o:Oper}
variable {gs:List (Nat × SV)} (hg:Let n ops o s gs) (hd:dstB o n=true)
include hg hd
theorem Seg.quoRem {op:BinOp} {t0 yt:TypeId} {x y:Operand} {k1:IntKind} {a b z:Int} (hop:op=.quo∧k1.wrap (a.tdiv b)=z∨op=.rem∧a.tmod b=z) (h:o.op=.binOp op t0 x y yt) (hx:(s.eval x).plain=some (.int k1 a)) (hy:(s.eval y).plain=some (.int k1 b)) (h0:(b == 0)=false) {fp:FP}
    (hfp:(⟨(gs++(preOf s x++preOf s y)).map (·.1),o.dst,[],[]⟩:FP)=fp) (t:Seg P n ops l (k+1) (s.putO o.dst (.one (.d (.v (.int k1 z))))) fps K):Seg P n ops (o::l) k s (fp::fps) K:=by
  have hb:¬ b=0:=by simpa using h0
  rcases hop with ⟨rfl,rfl⟩ | ⟨rfl,rfl⟩
  · exact Seg.bin hg hd h hx hy (by simp [binF,hb]) hfp t
  · exact Seg.bin hg hd h hx hy (by simp [binF,hb]) hfp t
end
end Go.Ev

namespace Go.Ev
variable [Lay]
theorem Gives.cut {R:List Id} {preH:Objs} {r:Id} {k m e sz j:Nat} {l:List (List D)} (hH:(r,(k,m,.row e sz l))∈preH) (hj:j≤l.length):Gives R preH (.cut r k j) (.sl true e sz (l.take j)) [r]:=fun w M n I s a u hr hp hc=>by
  have hx:I.H r=some (k,m,.row e sz l):=by rw [hr.hH]; exact hp _ hH
  cases hc with
  | cut _ _ _ _ hu h1 h =>
    obtain ⟨A,N,cap,h2,h3,h4⟩:=h m _ hx
    have ho:Ow I.W I.Z (I.S r) (.sl true e sz l) (I.hd r):=(hr.objs r k m _ hx).2.2
    rw [h2] at ho
    rw [h3]
    exact ((ho.take hj).zone fun b hb=>.inl hb).mono fun b hb=>⟨r,_,by simp,hx,hb⟩
theorem Gives.cut0 {R:List Id} {preH:Objs} {r:Id} {k m e sz:Nat} {l:List (List D)} (hH:(r,(k,m,.row e sz l))∈preH):Gives R preH (.cut r k 0) (.sl true e sz []) [r]:=.cut hH (Nat.zero_le _)

section
variable {P:Program} {o:Oper}
theorem OpS.capNil (k:Nat) (s0:St) {t e:TypeId} {it:TI} (ht:TyOk P t it) (hk:it.k=.sl e) {x:Operand}
    (h:o.op=.call { callee:=.builtin .cap,args:=#[x],argTypes:=#[t] }) (hx:(s0.eval x).plain=some (.slice none 0 0)):OpS P o k (preOf s0 x) [] (.one (.d (.v (.int .i64 0)))) []:=by
  refine .quiet fun w M n I s a hS hH hr=>⟨_,.v I _ rfl,?_⟩
  have hex:=hr.eval x
  rw [eval_pre hS] at hex
  have g1:=SV.plain_ok hx hex
  simp [execOp,h,resolve,invoke,builtin,Builtin.cap_,run_underlying (ht.slice hk),g1,goInt]
theorem OpS.sliceNil (k:Nat) (s0:St) {t e:TypeId} {it ie:TI} (ht:TyOk P t it) (hk:it.k=.sl e) (he:TyOk P e ie) {x:Operand} {lo hi:Option Operand}
    (h:o.op=.slice t x lo hi none) (hx:(s0.eval x).plain=some (.slice none 0 0)) (hlo:Bnd s0 lo 0 0) (hhi:Bnd s0 hi 0 0):OpS P o k (preOf s0 x++(preOp s0 lo++preOp s0 hi)) [] (.one (.d (.v (.slice none 0 0)))) []:=by
  refine .quiet fun w M n I s a hS hH hr=>⟨_,.v I _ rfl,?_⟩
  have hS1:∀ p∈preOf s0 x,s.slots p.1=p.2:=fun p hp=>hS p (List.mem_append.2 (.inl hp))
  have hS2:∀ p∈preOp s0 lo,s.slots p.1=p.2:=fun p hp=>hS p (List.mem_append.2 (.inr (List.mem_append.2 (.inl hp))))
  have hS3:∀ p∈preOp s0 hi,s.slots p.1=p.2:=fun p hp=>hS p (List.mem_append.2 (.inr (List.mem_append.2 (.inr hp))))
  have hex:=hr.eval x
  rw [eval_pre hS1] at hex
  have g1:=SV.plain_ok hx hex
  have hlo':(lo.map a.eval=none∧0=0)∨∃ k,lo.map a.eval=some (.int k (0:Nat)):=by
    rcases bnd_ok hr hS2 hlo with ⟨rfl,_⟩ | ⟨y,k,rfl,hy⟩
    · exact .inl ⟨rfl,rfl⟩
    · exact .inr ⟨k,by simp [hy]⟩
  have hhi':(hi.map a.eval=none∧0=0)∨∃ k,hi.map a.eval=some (.int k (0:Nat)):=by
    rcases bnd_ok hr hS3 hhi with ⟨rfl,_⟩ | ⟨y,k,rfl,hy⟩
    · exact .inl ⟨rfl,rfl⟩
    · exact .inr ⟨k,by simp [hy]⟩
  have hrun:=run_slice_ok (P:=P) (ht.slice hk) he.sizeOf none 0 0 0 0 (lo.map a.eval) (hi.map a.eval) (Nat.le_refl _) (Nat.le_refl _) (Nat.le_refl _) hlo' hhi' I.W
  simp [execOp,h,g1,hrun]
end
section
variable {P:Program} {n:Nat} {ops:Array Oper} {l:List Oper} {k:Nat} {s:St} {fps:List FP} {K:St→Prop} {o:Oper}
variable {gs:List (Nat × SV)} (hg:Let n ops o s gs) (hd:dstB o n=true)
include hg hd
theorem Seg.capNil {t e:TypeId} {it:TI} (ht:TyOk P t it) (hk:it.k=.sl e) {x:Operand}
    (h:o.op=.call { callee:=.builtin .cap,args:=#[x],argTypes:=#[t] }) (hx:(s.eval x).plain=some (.slice none 0 0)) {fp:FP} (hfp:(⟨(gs++preOf s x).map (·.1),o.dst,[],[]⟩:FP)=fp) (t:Seg P n ops l (k+1) (s.putO o.dst (.one (.d (.v (.int .i64 0))))) fps K) :
    Seg P n ops (o::l) k s (fp::fps) K:=by
  subst hfp
  exact Seg.op hg hd (.capNil k s ht hk h hx) (pre_self s x) (by simp) t
theorem Seg.sliceNil {t0 e:TypeId} {it ie:TI} (ht:TyOk P t0 it) (hk:it.k=.sl e) (he:TyOk P e ie) {x:Operand} {lo hi:Option Operand}
    (h:o.op=.slice t0 x lo hi none) (hx:(s.eval x).plain=some (.slice none 0 0)) (hlo:Bnd s lo 0 0) (hhi:Bnd s hi 0 0) {fp:FP} (hfp:(⟨(gs++(preOf s x++(preOp s lo++preOp s hi))).map (·.1),o.dst,[],[]⟩:FP)=fp)
    (t:Seg P n ops l (k+1) (s.putO o.dst (.one (.d (.v (.slice none 0 0))))) fps K):Seg P n ops (o::l) k s (fp::fps) K:=by
  subst hfp
  exact Seg.op hg hd (.sliceNil k s ht hk he h hx hlo hhi) (app_self (pre_self s x) (app_self (preOp_self s lo) (preOp_self s hi))) (by simp) t
end

theorem le_map {α:Type} {c:α→List D} {L:List α} {n:Nat} (h:n≤L.length):n≤(List.map c L).length:=by rwa [List.length_map]
theorem cut_d0 {α:Type} (c:α→List D) (L:List α) (e sz hv m e0:Nat) (lo:Option Operand) (x:List (List D)):C.cutted e sz (List.map c L) lo 0 hv m (.d (.sl false e0 sz x))=.d (.sl false e sz (List.map c (L.take hv))):=by
  simp [C.cutted,List.map_take]
def b8 (b:ByteArray) (j:Nat):UInt8:=(b[j]?).getD 0
def byteAt (b:ByteArray) (j:Nat):Int:=((b8 b j).toNat:Int)
theorem b8_get {b:ByteArray} {j:Nat} (h:j < b.size):b[j]?=some (b8 b j):=by
  simp [b8,getElem?_pos b j h]
theorem byteAt_le (b:ByteArray) (j:Nat):0≤byteAt b j∧byteAt b j≤255:=by
  unfold byteAt; have:=(b8 b j).toNat_lt; omega
end Go.Ev

namespace Go.Ev
variable [Lay]
theorem run_append_make {P:Program} {w:World} (t u ty e:TypeId) (i:TypeInfo) (z:Value) (ht:P.underlying t=some (.slice e)) (hu:P.underlying u=some (.int .i64)) (hi:P.info? e=some i) (hz:i.zero=some z) (hs:i.size=z.cells.size)
    (n:Nat) (h0:0 < n) (hsz:0 < i.size) (h48:n * i.bytes≤140737488355328) (h63:n≤140737488355328) :
    (Builtin.append_ #[t,u] ty #[.slice none 0 0,.int .i64 n]).run P w =
      .ok (.slice (some ⟨w.heap.size,0,none⟩) n (grownCap w n 0 e)) (w.drew.alloc (.cells (Builtin.zeroCells z.cells n++Builtin.zeroCells z.cells (grownCap w n 0 e - n)) e)):=by
  have hn:n≠0:=by omega
  have hw:IntKind.i64.wrap (n:Int)=n:=wrap_le (by omega) (by omega)
  have h63':¬ (9223372036854775807 < (n:Int)):=by omega
  have h48':¬ (281474976710656 < Builtin.nextslicecap n 0 * i.bytes):=by rw [nextslicecap_zero h0]; omega
  have h1:¬ ((n:Int) * (i.bytes:Int) > 281474976710656):=by rw [← Int.natCast_mul]; omega
  have h2:¬ ((n:Int) < 0):=by omega
  have h3:¬ (n * i.size=0):=by rw [Nat.mul_eq_zero]; omega
  simp [Builtin.append_,run_underlying ht,run_underlying hu,sizeOf,typeInfo,zeroValue,hi,hz,Builtin.lenOf,hn,h63',h48',Question.forced,run_firstCells_none,newRow,grownCap,asInt,asIntOf,hw,h1,h2,h3]

theorem zeroCells_get {z:Array Value} {sz n j i:Nat} (hs:z.size=sz) (hi:i < sz) (hj:j < n):(Builtin.zeroCells z n).toList[j * sz+i]?=some (z.getD i undef):=by
  subst hs
  have h1:j * z.size+i < n * z.size:=by
    have:=Nat.mul_le_mul_right z.size (show j+1≤n from hj)
    rw [Nat.add_mul] at this; omega
  have h2:(j * z.size+i) % z.size=i:=by rw [Nat.add_comm,Nat.add_mul_mod_self_right,Nat.mod_eq_of_lt hi]
  rw [Array.getElem?_toList,Array.getElem?_eq_getElem (by simpa [Builtin.zeroCells] using h1)]
  simp only [Builtin.zeroCells,Array.getElem_map,Array.getElem_range,h2,Option.some.injEq]
  rw [getElem!_def,Array.getElem?_eq_getElem hi]
  simp [Array.getD,hi]

section
variable {P:Program} {o:Oper}
theorem OpS.growNil (st:Nat) (s0:St) {t u e:TypeId} {it iu ie:TI} (ht:TyOk P t it) (hk:it.k=.sl e) (hu:TyOk P u iu) (hku:iu.k=.int .i64) (he:ZOk P e ie) (h0:0 < ie.size) (hz:ie.zero.length=ie.size) {x y:Operand} {d n0:Nat}
    (h:o.op=.call { callee:=.builtin .append,args:=#[x,y],argTypes:=#[t,u] }) (hd:o.dst=some d) (hx:(s0.eval x).plain=some (.slice none 0 0)) (hy:(s0.eval y).plain=some (.int .i64 n0)) (hpos:0 < n0) (hb:n0 * ie.bytes≤140737488355328) (hn0:n0≤140737488355328) :
    OpS P o st (preOf s0 x++preOf s0 y) [] (.one (.ref [d] st)) (updOf [d] [] (st,st,.row e ie.size (List.replicate n0 (ie.zero.map .v)))):=by
  intro w M n U s a W next Q hS hHs hst hdn ⟨I,hW,hU,hr⟩ hn
  subst hW hU
  obtain ⟨e1,e2⟩:=preOfs_two hS
  have hex:=hr.eval x
  have hey:=hr.eval y
  rw [e1] at hex
  rw [e2] at hey
  have g1:=SV.plain_ok hx hex
  have g2:=SV.plain_ok hy hey
  obtain ⟨x',z,hi,hx1,hx2,hx3,hx4⟩:=he.ok.info'
  have huu:P.underlying u=some (.int .i64):=by have:=hu.und; rw [hku] at this; exact this
  have hzs:z.cells.size=ie.size:=by rw [← Array.length_toList,hx4,hz]
  have hrun0:=run_append_make (P:=P) (w:=I.W) t u o.type e x' z (ht.slice hk) huu hi hx3 (by rw [hzs,hx1]) n0 hpos (by rw [hx1]; exact h0) (by rw [hx2]; exact hb) hn0
  generalize hW':I.W.drew.alloc (.cells (Builtin.zeroCells z.cells n0++Builtin.zeroCells z.cells (grownCap I.W n0 0 e - n0)) e)=W' at hrun0
  have hcap:n0≤grownCap I.W n0 0 e∧grownCap I.W n0 0 e≤maxLen:=⟨grownCap_ge _ _ _ _,grownCap_le_maxLen _ _ _ _ (by simp only [maxLen]; omega)⟩
  have hsize:W'.heap.size=I.W.heap.size+1:=by rw [← hW']; simp
  have hrow:W'.ownsRow 0 e ie.size (.slice (some ⟨I.W.heap.size,0,none⟩) n0 (grownCap I.W n0 0 e)) n0 (Builtin.zeroCells z.cells n0).toList:=by
    refine ⟨by rw [Array.length_toList,size_zeroCells,hzs],.inr ⟨I.W.heap.size,_,_,rfl,Nat.zero_le _,by rw [← hW']; exact heap_alloc_new I.W.drew _,hcap.1,hcap.2,?_,?_⟩⟩
    · simp only [Array.size_append,size_zeroCells,hzs,← Nat.add_mul]
      congr 1; omega
    · have:n0 * ie.size=(Builtin.zeroCells z.cells n0).toList.length:=by rw [Array.length_toList,size_zeroCells,hzs]
      rw [Array.toList_append,this]; exact List.take_left
  have hO:Ow W' I.Z (fun b=>I.W.heap.size≤b∧b < W'.heap.size) (.sl true e ie.size (List.replicate n0 (ie.zero.map .v))) (.slice (some ⟨I.W.heap.size,0,none⟩) n0 (grownCap I.W n0 0 e)):=by
    have hget:∀ (j:Nat) (el:List D),(List.replicate n0 (ie.zero.map D.v))[j]?=some el→j < n0∧el=ie.zero.map D.v:=fun j el hj=>by
      obtain ⟨hlt,h1⟩:=List.getElem?_eq_some_iff.1 hj
      exact ⟨by simpa using hlt,by simpa using h1.symm⟩
    refine .sl _ e ie.size _ _ (Builtin.zeroCells z.cells n0).toList (fun _ _ _=>False) (fun _ i=>z.cells.getD i undef) (by rw [List.length_replicate]; exact hrow) (by rw [List.length_replicate]; omega) (fun k hk=>by
      simp only [Value.ownBlock,Option.some.injEq] at hk; omega) (fun j i b hf=>hf.elim) (fun j i j' i' b hf=>hf.elim) (fun j el hj=>by rw [(hget j el hj).2,List.length_map,hz]) ?_ ?_
    · intro j el i c hj hic
      obtain ⟨hlt,rfl⟩:=hget j el hj
      have hi2:i < ie.size:=by have:=(List.getElem?_eq_some_iff.1 hic).1; rw [List.length_map,hz] at this; exact this
      exact zeroCells_get hzs hi2 hlt
    · intro j el i c hj hic
      obtain ⟨hlt,rfl⟩:=hget j el hj
      simp only [List.getElem?_map,Option.map_eq_some_iff] at hic
      obtain ⟨v,hv,rfl⟩:=hic
      have h1:v.oneCell'=true:=List.all_eq_true.1 he.one v (List.mem_of_getElem? hv)
      have h2:z.cells.getD i undef=v:=by rw [← hx4] at hv; simp at hv; simp [hv]
      rw [h2]
      exact .rd _ _ _ (.v v h1)
  obtain ⟨hJ,_⟩:=hr.upd [d] [] st st hst (.row e ie.size (List.replicate n0 (ie.zero.map .v))) (.slice (some ⟨I.W.heap.size,0,none⟩) n0 (grownCap I.W n0 0 e)) (fun b=>I.W.heap.size≤b∧b < W'.heap.size) W' (.inl rfl)
    ⟨by rw [← hW']; rfl,by rw [← hW']; rfl,by rw [← hW']; rfl,by omega,fun b hb _=>by rw [← hW']; exact heap_alloc_old I.W.drew _ hb⟩
    (fun b hb=>⟨hb.2,.inr hb.1⟩)
    (fun _=>by
      show Ow W' I.Z (up I.S [d] _ [d]) _ (up I.hd [d] _ [d])
      rw [up_same,up_same]; exact hO)
  obtain ⟨J,hJW,hJU,hJ2,hv⟩:∃ J:In,J.W=W'∧J.U=(fun q=>I.U q∨q=st)∧RelI w M n J (s.upds (updOf [d] [] (st,st,.row e ie.size (List.replicate n0 (ie.zero.map .v))))) a∧SVok J (.one (.ref [d] st)) (.slice (some ⟨I.W.heap.size,0,none⟩) n0 (grownCap I.W n0 0 e)) :=
    ⟨_,rfl,rfl,hJ,.one _ _ (.ref [d] st _ (.inr rfl) rfl fun m o _=>(up_same _ _ _).symm)⟩
  have hrun:(execOp a.eval o).run P I.W=.ok (.value (.slice (some ⟨I.W.heap.size,0,none⟩) n0 (grownCap I.W n0 0 e))) W':=by
    simp [execOp,h,resolve,invoke,builtin,g1,g2,hrun0]
  rw [Oper.wp,hrun]
  refine hn _ _ ⟨J,hJW,hJU,?_⟩
  rw [hd]
  exact hJ2.put (hdn d hd) hv
end

section
variable {P:Program} {n:Nat} {ops:Array Oper} {l:List Oper} {k:Nat} {s:St} {fps:List FP} {K:St→Prop} {o:Oper}
variable {gs:List (Nat × SV)} (hg:Let n ops o s gs) (hd:dstB o n=true)
include hg hd
theorem Seg.growNil {t u e:TypeId} {it iu ie:TI} (ht:TyOk P t it) (hk:it.k=.sl e) (hu:TyOk P u iu) (hku:iu.k=.int .i64) (he:ZOk P e ie) (h0:Nat.blt 0 ie.size=true) (hz:ie.zero.length=ie.size) {x y:Operand} {d n0:Nat} {els:List (List D)}
    (h:o.op=.call { callee:=.builtin .append,args:=#[x,y],argTypes:=#[t,u] }) (hd':o.dst=some d) (hx:(s.eval x).plain=some (.slice none 0 0)) {q:Int} (hy:(s.eval y).plain=some (.int .i64 q)) (hq:q=(n0:Int)) (hpos:0 < n0) (hb:n0 * ie.bytes≤140737488355328) (hn0:n0≤140737488355328)
    (hels:List.replicate n0 (ie.zero.map .v)=els) {fp:FP} (hfp:(⟨(gs++(preOf s x++preOf s y)).map (·.1),o.dst,[],[[d]]⟩:FP)=fp) (t:Seg P n ops l (k+1) ((s.obj [d] (some (k,k,.row e ie.size els))).put d (.one (.ref [d] k))) fps K) :
    Seg P n ops (o::l) k s (fp::fps) K:=by
  subst hfp hels hq
  refine Seg.op hg hd (.growNil k s ht hk hu hku he (by simpa using h0) hz h hd' hx hy hpos hb hn0) (app_self (pre_self s x) (pre_self s y)) (by simp) ?_
  rw [hd']; exact t
end
theorem ptr_some (r:Id) (k off:Nat):∀ (I:In) (u:Value),Cok I (.ptr r k off) u→∃ ad,u=.pointer (some ad):=fun _ _ h=>by cases h; exact ⟨_,rfl⟩
theorem ne_beq {b:Int} (h:b≠0):(b == 0)=false:=by simpa using h
end Go.Ev

namespace Go.Ev
open Go.ChangeShapes Go.WideShapes Go.RowKit
variable [Lay]

def Rds (w:World) (Z:Nat→Prop) (ds:List D) (cs:List Value):Prop:=cs.length=ds.length∧∀ (i:Nat) (d:D),ds[i]?=some d→∃ v,cs[i]?=some v∧Rd w Z d v

theorem Rds.one {w:World} {Z:Nat→Prop} {d:D} {v:Value} (h:Rd w Z d v):Rds w Z [d] [v]:=⟨rfl,fun i x hi=>by
  cases i with
  | zero=>simp at hi; subst hi; exact ⟨v,rfl,h⟩
  | succ i=>simp at hi⟩
theorem Rds.app {w:World} {Z:Nat→Prop} {d0 d1:List D} {cs:List Value} {n0 n1:Nat} (h0:Rds w Z d0 ((cs.drop 0).take n0)) (h1:Rds w Z d1 ((cs.drop n0).take n1)) (hl:cs.length=n0+n1) (l0:d0.length=n0) (l1:d1.length=n1):Rds w Z (d0++d1) cs:=by
  refine ⟨by rw [List.length_append,l0,l1,hl],fun i d hi=>?_⟩
  by_cases h:i < n0
  · rw [List.getElem?_append_left (by omega)] at hi
    obtain ⟨v,hv,hr⟩:=h0.2 i d hi
    rw [List.drop_zero,List.getElem?_take,if_pos h] at hv
    exact ⟨v,hv,hr⟩
  · rw [List.getElem?_append_right (by omega),l0] at hi
    obtain ⟨v,hv,hr⟩:=h1.2 _ d hi
    have hlt:i - n0 < n1:=by have:=(List.getElem?_eq_some_iff.1 hi).1; omega
    rw [List.getElem?_take,if_pos hlt,List.getElem?_drop] at hv
    exact ⟨v,by rw [show i=n0+(i - n0) by omega]; exact hv,hr⟩

structure TyR (P:Program) (t:TypeId) {α:Type} (c:α→List D) (sz:Nat) (good:α→Prop):Prop where
  size:P.cellsOf t=sz
  len:∀ x,(c x).length=sz
  rd:∀ {H:Type} (enc:TypeId × Value→H) (w:World) (spare:Nat→Bool) (held:Bool) (fuel:Nat) (cs:List Value) (x:DataW H × List MemPlace),
    DataW.trod enc P w 0 spare held fuel t cs=some x→∃ y,good y∧Rds w (fun b=>b < w.heap.size) (c y) cs

section
variable {P:Program}
theorem TyR.int {t:TypeId} {k:IntKind} (ht:P.underlying t=some (.int k)) (hs:P.cellsOf t=1):TyR P t (fun x:Int=>[.v (.int k x)]) 1 (fun x=>(Lit.int k x).wf=true) :=
  ⟨hs,fun _=>rfl,fun enc w spare held fuel cs x h=>by
    obtain ⟨n,rfl,_,hw⟩:=DataW.trod_int ht h
    exact ⟨n,hw,.one (.v _ rfl)⟩⟩
theorem TyR.bool {t:TypeId} (ht:P.underlying t=some .bool) (hs:P.cellsOf t=1):TyR P t (fun x:Bool=>[.v (.bool x)]) 1 (fun _=>True) :=
  ⟨hs,fun _=>rfl,fun enc w spare held fuel cs x h=>by
    obtain ⟨n,rfl,_⟩:=DataW.trod_bool ht h
    exact ⟨n,trivial,.one (.v _ rfl)⟩⟩
theorem TyR.str {t:TypeId} (ht:P.underlying t=some .string) (hs:P.cellsOf t=1):TyR P t (fun x:ByteArray=>[.v (.string x)]) 1 (fun x=>x.size≤maxLen) :=
  ⟨hs,fun _=>rfl,fun enc w spare held fuel cs x h=>by
    obtain ⟨n,rfl,_,hw⟩:=DataW.trod_string ht h
    exact ⟨n,hw,.one (.v _ rfl)⟩⟩
theorem TyR.slice {t e:TypeId} {α:Type} {c:α→List D} {sz:Nat} {good:α→Prop} (ht:P.underlying t=some (.slice e)) (hs:P.cellsOf t=1) (he:TyR P e c sz good) :
    TyR P t (fun l:List α=>[.sl false e sz (List.map c l)]) 1 (fun l=>l.length≤maxLen∧∀ x∈l,good x) :=
  ⟨hs,fun _=>rfl,fun enc w spare held fuel cs x h=>by
    rcases Deep.open_slice ht h with ⟨rfl,_⟩ | ⟨a,len,cap,m,n,Dt,Pl,rfl,_,hlc,hcm,hm,_,hel⟩
    · exact ⟨[],⟨Nat.zero_le _,by simp⟩,.one (.nil _ _ _ _)⟩
    · have hlm:len≤m:=by rw [hm]; split<;>omega
      have h1:∀ i,i < len→∃ cs' y,w.cells? 0 (a.add (i * sz)) sz=some cs'∧good y∧Rds w (fun b=>b < w.heap.size) (c y) cs':=fun i hi=>by
        obtain ⟨cs',h2,h3⟩:=hel i (by omega)
        rw [he.size] at h2
        obtain ⟨y,hg,hr⟩:=he.rd enc w spare held n cs' _ h3
        exact ⟨cs',y,h2,hg,hr⟩
      by_cases h0:len=0
      · subst h0
        exact ⟨[],⟨Nat.zero_le _,by simp⟩,.one (.sl e sz [] (some a) cap (fun _ _=>undef) (Nat.zero_le _) (Nat.zero_le _) (by simp) (by simp) (by simp))⟩
      obtain ⟨cs0,y0,hc0,hg0,_⟩:=h1 0 (by omega)
      have h2:∀ i,∃ p:List Value × α,i < len→w.cells? 0 (a.add (i * sz)) sz=some p.1∧good p.2∧Rds w (fun b=>b < w.heap.size) (c p.2) p.1:=fun i=>by
        by_cases hi:i < len
        · obtain ⟨cs',y,hp⟩:=h1 i hi; exact ⟨(cs',y),fun _=>hp⟩
        · exact ⟨(cs0,y0),fun h=>absurd h hi⟩
      obtain ⟨f,hf⟩:=Classical.axiomOfChoice h2
      have hget:∀ (j:Nat) (el:List D),(List.map c ((List.range len).map fun i=>(f i).2))[j]?=some el→j < len∧el=c (f j).2:=fun j el hj=>by
        simp only [List.getElem?_map,Option.map_eq_some_iff] at hj
        obtain ⟨_,⟨q,hq,rfl⟩,rfl⟩:=hj
        obtain ⟨hlt,he⟩:=List.getElem?_eq_some_iff.1 hq
        simp only [List.length_range,List.getElem_range] at hlt he
        subst he; exact ⟨hlt,rfl⟩
      have hcell:∀ (j:Nat) (el:List D) (i:Nat) (d:D),(List.map c ((List.range len).map fun i=>(f i).2))[j]?=some el→el[i]?=some d →
          ∃ v,(f j).1[i]?=some v∧Rd w (fun b=>b < w.heap.size) d v∧w.cell? (a.add (j * sz+i))=some v:=fun j el i d hj hi=>by
        obtain ⟨hlt,rfl⟩:=hget j el hj
        obtain ⟨h3,_,h5⟩:=hf j hlt
        obtain ⟨v,hv,hr⟩:=h5.2 i d hi
        obtain ⟨_,h6,h7⟩:=World.cells?_some h3
        have hi2:i < sz:=by have:=(List.getElem?_eq_some_iff.1 hv).1; omega
        exact ⟨v,hv,hr,by rw [← hv,← h7 i hi2,add_add]⟩
      have hL:((List.range len).map fun i=>(f i).2).length=len:=by simp
      have hLc:(List.map c ((List.range len).map fun i=>(f i).2)).length=len:=by simp
      refine ⟨(List.range len).map fun i=>(f i).2,⟨by rw [hL]; omega,fun x hx=>?_⟩,.one ?_⟩
      · obtain ⟨i,hi,rfl⟩:=List.mem_map.1 hx
        exact (hf i (List.mem_range.1 hi)).2.1
      · have:=Rd.sl (W:=w) (Z:=fun b=>b < w.heap.size) e sz (List.map c ((List.range len).map fun i=>(f i).2)) (some a) cap (fun j i=>((f j).1[i]?).getD undef) (by rw [hLc]; exact hlc) (by rw [hLc]; omega) (fun j el hj=>by rw [(hget j el hj).2]; exact he.len _)
          (fun j el i d hj hi=>by
            obtain ⟨v,hv,_,hc⟩:=hcell j el i d hj hi
            refine ⟨a,rfl,?_,by rw [hc,hv]; rfl⟩
            have hb:=World.block_lt_of_cell? w _ hc
            have hbl:(a.add (j * sz+i)).block=a.block:=by unfold Addr.add; split<;>rfl
            rwa [hbl] at hb)
          (fun j el i d hj hi=>by
            obtain ⟨v,hv,hr,_⟩:=hcell j el i d hj hi
            simp only [hv,Option.getD_some]; exact hr)
        rw [hLc] at this
        exact this⟩
theorem TyR.st2 {t:TypeId} {f0 f1:Field} {α α0 α1:Type} {c:α→List D} {c0:α0→List D} {c1:α1→List D} {s0 s1:Nat} {g0:α0→Prop} {g1:α1→Prop} {good:α→Prop} (mk:α0→α1→α) (ht:P.underlying t=some (.struct #[f0,f1])) (hs:P.cellsOf t=s0+s1)
    (h0:TyR P f0.type c0 s0 g0) (h1:TyR P f1.type c1 s1 g1) (o0:f0.offset=0) (o1:f1.offset=s0) (hc:∀ a b,c (mk a b)=c0 a++c1 b) (hlen:∀ x,(c x).length=s0+s1) (hg:∀ a b,g0 a→g1 b→good (mk a b)):TyR P t c (s0+s1) good :=
  ⟨hs,hlen,fun enc w spare held fuel cs x h=>by
    obtain ⟨y0,y1,n,_,hl,e0,e1⟩:=trod_struct2 ht h
    rw [o0,h0.size] at e0
    rw [o1,h1.size] at e1
    obtain ⟨a,ga,ra⟩:=h0.rd enc w spare held n _ _ e0
    obtain ⟨b,gb,rb⟩:=h1.rd enc w spare held n _ _ e1
    exact ⟨mk a b,hg a b ga gb,by rw [hc]; exact .app ra rb (by rw [hl,hs]) (h0.len _) (h1.len _)⟩⟩
theorem TyR.st3 {t:TypeId} {f0 f1 f2:Field} {α α0 α1 α2:Type} {c:α→List D} {c0:α0→List D} {c1:α1→List D} {c2:α2→List D} {s0 s1 s2:Nat} {g0:α0→Prop} {g1:α1→Prop} {g2:α2→Prop} {good:α→Prop} (mk:α0→α1→α2→α) (ht:P.underlying t=some (.struct #[f0,f1,f2])) (hs:P.cellsOf t=s0+s1+s2)
    (h0:TyR P f0.type c0 s0 g0) (h1:TyR P f1.type c1 s1 g1) (h2:TyR P f2.type c2 s2 g2) (o0:f0.offset=0) (o1:f1.offset=s0) (o2:f2.offset=s0+s1) (hc:∀ a b d,c (mk a b d)=(c0 a++c1 b)++c2 d) (hlen:∀ x,(c x).length=s0+s1+s2) (hg:∀ a b d,g0 a→g1 b→g2 d→good (mk a b d)):TyR P t c (s0+s1+s2) good :=
  ⟨hs,hlen,fun enc w spare held fuel cs x h=>by
    obtain ⟨y0,y1,y2,n,_,hl,e0,e1,e2⟩:=Deep.trod_struct3 ht h
    rw [o0,h0.size] at e0
    rw [o1,h1.size] at e1
    rw [o2,h2.size] at e2
    obtain ⟨a,ga,ra⟩:=h0.rd enc w spare held n _ _ e0
    obtain ⟨b,gb,rb⟩:=h1.rd enc w spare held n _ _ e1
    obtain ⟨d,gd,rd⟩:=h2.rd enc w spare held n _ _ e2
    refine ⟨mk a b d,hg a b d ga gb gd,?_⟩
    rw [hc]
    refine .app (n0:=s0+s1) (n1:=s2) (.app (n0:=s0) (n1:=s1) ?_ ?_ ?_ (h0.len _) (h1.len _)) rd (by rw [hl,hs]) (by rw [List.length_append,h0.len,h1.len]) (h2.len _)
    · simpa [List.take_take,Nat.min_eq_left (Nat.le_add_right s0 s1)] using ra
    · rw [List.drop_zero,List.drop_take,List.take_take,Nat.add_sub_cancel_left,Nat.min_self]; exact rb
    · rw [List.drop_zero,List.length_take]; omega⟩

theorem TyR.arg {H:Type} {enc:TypeId × Value→H} {t:TypeId} {α:Type} {c:α→List D} {sz:Nat} {good:α→Prop} (h:TyR P t c sz good) {fs:Array Field} (ht:P.underlying t=some (.struct fs)) {w:World} {v:Value} {d:DataW H} {ps:List MemPlace} {b0:Nat}
    (hval:Value.okWide P w .any b0 t v) (hd:DataW.Trod enc P w 0 (fun _=>true) true t v d ps):∃ (x:α) (g:Nat→Value),good x∧v=mkV true sz g∧∀ (i:Nat) (d:D),(c x)[i]?=some d→Rd w (fun b=>b < w.heap.size) d (g i):=by
  obtain ⟨cs,rfl,hcs⟩:=okWide_struct ht hval
  obtain ⟨fuel,hf⟩:=hd
  obtain ⟨x,hg,hr⟩:=h.rd enc w _ _ fuel _ _ hf
  refine ⟨x,fun i=>cs.getD i undef,hg,(mkV_agg (by rw [hcs,h.size])).symm,fun i d hi=>?_⟩
  obtain ⟨v,hv,hr⟩:=hr.2 i d hi
  have:cs.getD i undef=v:=by
    simp only [Value.cells,Array.getElem?_toList] at hv
    simp [hv]
  show Rd w _ d (cs.getD i undef)
  rw [this]; exact hr
theorem TyR.arg1 {H:Type} {enc:TypeId × Value→H} {t:TypeId} {α:Type} {c:α→List D} {good:α→Prop} (h:TyR P t c 1 good) {w:World} {v:Value} {d:DataW H} {ps:List MemPlace}
    (hv1:v.cells.toList=[v]) (hd:DataW.Trod enc P w 0 (fun _=>true) true t v d ps):∃ (x:α) (g:Nat→Value),good x∧v=mkV false 1 g∧∀ (i:Nat) (d:D),(c x)[i]?=some d→Rd w (fun b=>b < w.heap.size) d (g i):=by
  obtain ⟨fuel,hf⟩:=hd
  obtain ⟨x,hg,hr⟩:=h.rd enc w _ _ fuel _ _ hf
  rw [hv1] at hr
  refine ⟨x,fun _=>v,hg,rfl,fun i d hi=>?_⟩
  obtain ⟨v',hv,hr⟩:=hr.2 i d hi
  have hi0:i=0:=by have:=(List.getElem?_eq_some_iff.1 hv).1; simpa using this
  subst hi0
  simp at hv; subst hv; exact hr

theorem one_int {P:Program} {w:World} {b0:Nat} {t:TypeId} {k:IntKind} {v:Value} (ht:P.underlying t=some (.int k)) (h:Value.okWide P w .any b0 t v):v.cells.toList=[v]:=by
  obtain ⟨n,rfl⟩:=okWide_int ht h; rfl
theorem one_sl {P:Program} {w:World} {b0:Nat} {t e:TypeId} {v:Value} (ht:P.underlying t=some (.slice e)) (h:Value.okWide P w .any b0 t v):v.cells.toList=[v]:=by
  obtain ⟨a,l,c,rfl⟩:=okWide_slice ht h; rfl
theorem args_cons {w:World} {Z:Nat→Prop} {p:Bool × Nat} {sh:Sh} {v:Value} {vs:List Value} {d0 ds:List D} {g0 g:Nat→Value} (hv:v=mkV p.1 p.2 g0) (h0:∀ (i:Nat) (d:D),d0[i]?=some d→Rd w Z d (g0 i)) (hl:d0.length=p.2) (hb:p.1=false→p.2=1)
    (hvs:vs=mkVs sh g) (h:∀ (i:Nat) (d:D),ds[i]?=some d→Rd w Z d (g i)):∃ g',v::vs=mkVs (p::sh) g'∧∀ (i:Nat) (d:D),(d0++ds)[i]?=some d→Rd w Z d (g' i):=by
  refine ⟨fun i=>if i < wd p then g0 i else g (i - wd p),?_,?_⟩
  · simp only [mkVs,List.cons.injEq]
    constructor
    · rw [hv]
      unfold mkV
      split
      · rename_i h1
        congr 2; funext j; simp [wd,h1]
      · rename_i h1
        have:wd p=1:=by simp [wd,h1]
        simp [this]
    · rw [hvs]
      congr 1
      funext i
      show g i=(if wd p+i < wd p then g0 (wd p+i) else g (wd p+i - wd p))
      rw [if_neg (by omega),Nat.add_sub_cancel_left]
  · have hl:d0.length=wd p:=by unfold wd; split<;>simp_all
    intro i d hi
    by_cases hlt:i < wd p
    · rw [List.getElem?_append_left (by omega)] at hi
      simp only [hlt,if_true]; exact h0 i d hi
    · rw [List.getElem?_append_right (by omega),hl] at hi
      simp only [hlt,if_false]; exact h _ d hi

theorem Trip.law {f:FuncId} {sh:Sh} {ds:List D} (h:Trip P f sh ds [(false,1)] [.v (.bool true)] []) {W:World} (hL:Laid W (fun b=>b < W.heap.size)) {args:Array Value} {g:Nat→Value} (ha:args.toList=mkVs sh g) (hr:∀ (i:Nat) (d:D),ds[i]?=some d→Rd W (fun b=>b < W.heap.size) d (g i)) :
    Calls P f args W fun e W'=>e=.returned (.bool true)∧Below W.heap.size W W':=by
  have e:args=(mkVs sh g).toArray:=by rw [← ha]
  rw [e]
  refine (h.run W _ g (fun _ _=>False) (fun _ hb=>hb) hL (fun t d hd=>.rd _ _ _ (hr t d hd)) (fun _ _ hf=>hf.elim) (fun _ _ _ _ hf=>hf.elim)).mono fun e W' ⟨hh,Z',S,he,hp⟩=>?_
  have h0:=hp.how 0 (.v (.bool true)) rfl
  have hv:hh 0=.bool true:=by
    have h1:Ow W' Z' (S 0) (.v (.bool true)) (hh 0):=h0
    generalize hh 0=u at h1 ⊢
    cases h1 with | rd _ _ _ h1=>cases h1; rfl
  refine ⟨by rw [he]; show Ending.returned (hh 0)=_; rw [hv],hp.ext.os,hp.ext.tape,hp.ext.output,hp.ext.size,fun k hk=>hp.ext.block k hk fun ⟨_,hf⟩=>hf.elim⟩
end

theorem trodAll_stays {H:Type} {enc:TypeId × Value→H} {P:Program} (hl:laidOutB P=true) {W W':World} (hb:Below W.heap.size W W') {sp:Nat→Bool}:∀ {ts:List TypeId} {vs:List Value} {ds:List (DataW H)} {ps:List MemPlace},(∀ t∈ts,P.readableRec t=true∧t < P.types.size) →
    DataW.TrodAll enc P W 0 (fun _=>true) true ts vs ds ps→(∀ p∈ps,p.block < W.heap.size∧sp p.block=true)→DataW.TrodAll enc P W' 0 sp true ts vs ds ps
  | [],[],[],_,_,h,_=>h
  | _::_,_::_,_::_,_,ht,⟨p,q,h1,h2,e⟩,hs =>
    ⟨p,q,WideElems.Trod_stays hl (ht _ (List.mem_cons.2 (.inl rfl))).1 (ht _ (List.mem_cons.2 (.inl rfl))).2 h1 (fun x hx=>hb.same (hs x (by rw [e]; exact List.mem_append_left _ hx)).1) (fun x hx=>(hs x (by rw [e]; exact List.mem_append_left _ hx)).2),
      trodAll_stays hl hb (fun t h=>ht t (List.mem_cons.2 (.inr h))) h2 (fun x hx=>hs x (by rw [e]; exact List.mem_append_right _ hx)),e⟩
theorem post_law {H:Type} {enc:TypeId × Value→H} {P:Program} {f:Func} {s:ChangeSpec} {W W':World} {args:Array Value} {ds gs:List (DataW H)} {before:List MemPlace} {t:TypeId} (hl:laidOutB P=true) (hW:DataW.Whole enc P f.params.toList s.vars false W args.toList ds gs before) (hv:s.vars=[])
    (hres:(s.fn H (ds++gs)).results=[.lit (.bool true)]) (hargs:(s.fn H (ds++gs)).args=ds) (hvs:(s.fn H (ds++gs)).vars=[]) (hb:Below W.heap.size W W') (hread:∀ t∈f.params.toList,P.readableRec t=true∧t < P.types.size) (hrt:f.resultTypes=#[t]) (hbool:P.underlying t=some .bool) :
    s.post enc P f false true false false W args (.bool true) W':=by
  have hlt:=hW.lt
  have hW':=hW
  obtain ⟨p,q,hA,hV,rfl,hz,hn⟩:=hW
  rw [hv] at hV
  obtain ⟨rfl,rfl⟩:=trodVars_none hV
  rw [List.append_nil] at hlt hz hn hW'
  have hres':∀ (b:Nat) (sp:Nat→Bool) (hd:Bool),DataW.TrodAll enc P W' b sp hd f.resultTypes.toList ((Value.bool true).resultList f.resultTypes.size) (s.fn H (ds++[])).results []:=fun b sp hd=>by
    rw [hres,hrt]; exact trodAll_mk1 ⟨1,by simp [DataW.trod,Value.cells,hbool]⟩
  have hargs':∀ sp:Nat→Bool,(∀ x∈p,sp x.block=true)→DataW.TrodAll enc P W' 0 sp true f.params.toList args.toList (s.fn H (ds++[])).args p:=fun sp hsp=>by
    rw [hargs]; exact trodAll_stays hl hb hread hA fun x hx=>⟨hlt x hx,hsp x hx⟩
  have hold:∀ x∈p,(fun b=>decide (b < W.heap.size)) x.block=true:=fun x hx=>by simpa using hlt x hx
  have hvars':∀ sp:Nat→Bool,DataW.TrodVars enc P W' sp s.vars (s.fn H (ds++[])).vars []:=fun sp=>by rw [hv,hvs]; rfl
  refine ⟨ds,[],p,[],p,[],by simpa using hW',hres' _ _ _,hargs' _ hold,hvars' _,hb.frame _,fun _=>?_⟩
  refine ⟨fun j t' r h1 h2=>?_,_,_,([]++p)++[],⟨[]++p,[],trodAll_append (hargs' _ (fun _ _=>rfl)) (hres' _ _ _),hvars' _,rfl,?_,?_⟩,?_⟩
  · rw [hrt] at h1 h2
    cases j with
    | zero =>
      simp [Value.resultList] at h1 h2
      subst h1 h2
      simp [Value.okWide,hbool,Cell.okWide,Cell.ok]
    | succ j=>simp at h1
  · intro b off hp
    have hp':MemPlace.cell b off∈p:=by simpa using hp
    rw [hb.frozen (hlt _ hp')]
    exact hz b off hp'
  · intro ha; cases ha
  · intro x hx _
    simpa using hx

theorem Trip.row1 {P:Program} {f:FuncId} {x:Value} {cs:List Value} {e:TypeId} (hfn:Fn P f) (hx:x.oneCell'=true) (h1:∀ v∈cs,v.oneCell'=true) (hl:cs.length≤maxLen)
    (h:∀ W Z,Laid W Z→(∀ b,Z b→b < W.heap.size)→Calls P f #[x] W fun e' W'=>e'=.returned (.slice (some ⟨W.heap.size,0,none⟩) cs.length cs.length)∧W'=W.alloc (.cells cs.toArray e)) :
    Trip P f [(false,1)] [.v x] [(false,1)] [.sl true e 1 (cs.map fun v=>[.v v])] []:=by
  refine ⟨hfn,fun W Z g T hZ hL hd hT hS=>?_⟩
  have hg:g 0=x:=by
    have h2:Ow W Z (T 0) (.v x) (g 0):=hd 0 _ rfl
    generalize g 0=u at h2 ⊢
    cases h2 with | rd _ _ _ h2=>cases h2; rfl
  have ha:(mkVs [(false,1)] g).toArray=#[x]:=by
    show #[g 0]=#[x]
    rw [hg]
  rw [ha]
  refine (h W Z hL hZ).mono fun e' W' ⟨he,hW'⟩=>?_
  subst hW'
  refine ⟨fun _=>.slice (some ⟨W.heap.size,0,none⟩) cs.length cs.length,Z,fun t b=>t=0∧b=W.heap.size,by rw [he]; rfl,?_⟩
  refine ⟨(ext_alloc W _).mono fun _ hf=>hf.elim,fun b hb=>hb,fun b hb=>⟨?_,.inl hb⟩,?_,?_,?_⟩
  · have:=hZ b hb; simp; omega
  · intro t d ht
    cases t with
    | succ t=>simp at ht
    | zero =>
      simp only [List.map_nil,List.append_nil,List.getElem?_cons_zero,Option.some.injEq] at ht
      subst ht
      have hlen:(cs.map fun v=>[D.v v]).length=cs.length:=List.length_map _
      have hget:∀ (j:Nat) (el:List D),(cs.map fun v=>[D.v v])[j]?=some el→∃ v,cs[j]?=some v∧el=[.v v]:=fun j el hj=>by
        simp only [List.getElem?_map,Option.map_eq_some_iff] at hj
        obtain ⟨v,hv,rfl⟩:=hj
        exact ⟨v,hv,rfl⟩
      show Ow _ Z _ _ (.slice (some ⟨W.heap.size,0,none⟩) cs.length cs.length)
      refine .sl _ e 1 _ _ cs (fun _ _ _=>False) (fun j _=>(cs[j]?).getD undef) ?_ (by rw [hlen]; exact hl) (fun k hk=>?_) (fun j i b hf=>hf.elim) (fun j i j' i' b hf=>hf.elim) (fun j el hj=>?_) (fun j el i c hj hi=>?_) (fun j el i c hj hi=>?_)
      · rw [hlen]
        have:=World.ownsRow_lit (base:=0) (e:=e) (size:=1) W cs.toArray cs.length (Nat.zero_le _) hl (by simp)
        simpa using this
      · simp only [Value.ownBlock,Option.some.injEq] at hk
        exact ⟨rfl,hk.symm⟩
      · obtain ⟨v,_,rfl⟩:=hget j el hj; rfl
      · obtain ⟨v,hv,rfl⟩:=hget j el hj
        have hi0:i=0:=by have:=(List.getElem?_eq_some_iff.1 hi).1; simpa using this
        subst hi0
        simp [hv]
      · obtain ⟨v,hv,rfl⟩:=hget j el hj
        have hi0:i=0:=by have:=(List.getElem?_eq_some_iff.1 hi).1; simpa using this
        subst hi0
        simp only [List.getElem?_cons_zero,Option.some.injEq] at hi
        subst hi
        simp only [hv,Option.getD_some]
        exact .rd _ _ _ (.v v (h1 v (List.mem_of_getElem? hv)))
  · rintro t b ⟨_,rfl⟩
    exact ⟨by simp,fun hb=>by have:=hZ _ hb; omega,.inr (Nat.le_refl _)⟩
  · rintro t t' b hne ⟨rfl,rfl⟩ ⟨rfl,_⟩
    exact hne rfl
end Go.Ev

namespace Go.Ev
variable [Lay]

section
variable {P:Program} {o:Oper}
end

section
variable {P:Program} {n:Nat} {ops:Array Oper} {l:List Oper} {k:Nat} {s:St} {fps:List FP} {K:St→Prop} {o:Oper}
variable {gs:List (Nat × SV)} (hg:Let n ops o s gs) (hd:dstB o n=true)
include hg hd
end

theorem erase_slo {α:Type} (m:Bool) (e sz:Nat) (c c':α→List D) (L:List α) (h:∀ x,(c x).map D.erase=c' x):(D.sl m e sz (List.map c L)).erase=.sl false e sz (List.map c' L):=by
  rw [D.erase_sl,List.map_map]
  congr 1
  exact List.map_congr_left fun x _=>h x
theorem erase_takeo {α:Type} (e sz:Nat) (c c':α→List D) (L:List α) (j:Nat) (h:∀ x,(c x).map D.erase=c' x):D.erase (.sl true e sz ((L.map c).take j))=.sl false e sz ((L.take j).map c'):=by
  rw [← List.map_take]; exact erase_slo _ _ _ _ _ _ h
theorem wrap_u64 {a:Int} (h0:0≤a) (h1:a≤9223372036854775807):IntKind.wrap .u64 a=a:=by
  simp [IntKind.wrap,IntKind.bits,IntKind.signed]; omega
section
variable {P:Program} {n:Nat} {ops:Array Oper} {l:List Oper} {k:Nat} {s:St} {fps:List FP} {K:St→Prop} {o:Oper}
variable {gs:List (Nat × SV)} (hg:Let n ops o s gs) (hd:dstB o n=true)
include hg hd
theorem Seg.shl {t0 yt:TypeId} {x y:Operand} {k1 k2:IntKind} {a b z:Int} (h:o.op=.binOp .shl t0 x y yt) (hx:(s.eval x).plain=some (.int k1 a)) (hy:(s.eval y).plain=some (.int k2 b)) (h0:0≤b) (hz:k1.wrap (a * 2 ^ (Nat.min b.toNat k1.bits))=z) {fp:FP}
    (hfp:(⟨(gs++(preOf s x++preOf s y)).map (·.1),o.dst,[],[]⟩:FP)=fp) (t:Seg P n ops l (k+1) (s.putO o.dst (.one (.d (.v (.int k1 z))))) fps K):Seg P n ops (o::l) k s (fp::fps) K:=by
  subst hz
  exact Seg.bin hg hd h hx hy (by have : ¬ b < 0 := by omega
                                  simp [binF,this]) hfp t
end
end Go.Ev

namespace Go.Ev
variable [Lay]

structure Eq2Ok (P:Program) (t e:TypeId) (k:IntKind):Prop where
  und:P.underlying t=some (.struct (P.fieldsOf t))
  pack:P.stoodInHeld t=false
  guard:P.eqGuardType P.depth t=false
  flds:(P.fieldsOf t).toList.map (fun f=>(f.name == "_",f.type,f.offset))=[(false,e,0),(false,e,1)]
  elem:P.underlying e=some (.int k)

theorem eq2_fields {P:Program} {t e:TypeId} {k:IntKind} (h:Eq2Ok P t e k) {i:TI} (he:TyOk P e i) (hk:i.k=.int k) (d:Nat) (a0 a1 b0 b1:Int) (w:World) :
    (Op.eqFields (d+1) #[.int k a0,.int k a1] #[.int k b0,.int k b1] (P.fieldsOf t).toList).run P w=.ok (a0 == b0&&a1 == b1) w:=by
  have hfl:=h.flds
  generalize (P.fieldsOf t).toList=fs at hfl
  rcases fs with _ | ⟨f0,_ | ⟨f1,_ | ⟨f2,fs⟩⟩⟩
  · simp at hfl
  · simp at hfl
  · skip
    simp only [List.map_cons,List.map_nil,List.cons.injEq,Prod.mk.injEq,and_true] at hfl
    obtain ⟨⟨n0,e0,o0⟩,⟨n1,e1,o1⟩⟩:=hfl
    have hg:i.k.agg=false:=by rw [hk]; rfl
    have m0:f0.name ≠ "_" := by simpa using n0
    have m1:f1.name ≠ "_" := by simpa using n1
    have hp:∀ (cs:Array Value) (q:Nat) (v:Value),cs[q]?=some v→(part e cs q).run P w=.ok v w:=fun cs q v hv=>by
      simp [part,he.isAgg,hg,hv]
    have hq:∀ (u v:Int),(Op.equalIn (d+1) e (.int k u) (.int k v)).run P w=.ok (u == v) w:=fun u v=>run_equalIn_int w d e k k u v h.elem
    rw [Op.eqFields,if_pos m0,e0,o0]
    simp only [Sem.run_bind]
    rw [hp #[.int k a0,.int k a1] 0 (.int k a0) rfl,Result.andThen_ok,hp #[.int k b0,.int k b1] 0 (.int k b0) rfl,Result.andThen_ok,hq,Result.andThen_ok]
    cases h0:a0 == b0 with
    | false=>simp
    | true =>
      simp only [Bool.not_true,Bool.false_eq_true,if_false,Bool.true_and]
      rw [Op.eqFields,if_pos m1,e1,o1]
      simp only [Sem.run_bind]
      rw [hp #[.int k a0,.int k a1] 1 (.int k a1) rfl,Result.andThen_ok,hp #[.int k b0,.int k b1] 1 (.int k b1) rfl,Result.andThen_ok,hq,Result.andThen_ok]
      cases h1:a1 == b1 with
      | false=>simp
      | true=>simp [Op.eqFields]
  · simp at hfl

theorem eq2_run {P:Program} {t e:TypeId} {k:IntKind} (h:Eq2Ok P t e k) {i:TI} (he:TyOk P e i) (hk:i.k=.int k) (x y:Operand) (a0 a1 b0 b1:Int) (w:World) :
    ((do eqGuard .eql t x y (.agg #[.int k a0,.int k a1]) (.agg #[.int k b0,.int k b1]); binOp .eql t (.agg #[.int k a0,.int k a1]) (.agg #[.int k b0,.int k b1])):Sem Value).run P w=.ok (.bool (a0 == b0&&a1 == b1)) w ∧
    ((do eqGuard .neq t x y (.agg #[.int k a0,.int k a1]) (.agg #[.int k b0,.int k b1]); binOp .neq t (.agg #[.int k a0,.int k a1]) (.agg #[.int k b0,.int k b1])):Sem Value).run P w=.ok (.bool (!(a0 == b0&&a1 == b1))) w:=by
  have key:(Op.equalIn 10000 t (.agg #[.int k a0,.int k a1]) (.agg #[.int k b0,.int k b1])).run P w=.ok (a0 == b0&&a1 == b1) w:=by
    rw [run_equalIn_struct w 9999 t _ _ h.und h.pack]
    exact eq2_fields h he hk 9998 a0 a1 b0 b1 w
  constructor
  · rw [Sem.run_bind,run_eqGuard_agg w .eql t x y _ _ h.guard,Result.andThen_ok,run_eql_struct,key]; rfl
  · rw [Sem.run_bind,run_eqGuard_agg w .neq t x y _ _ h.guard,Result.andThen_ok,run_neq_struct,key]; rfl

def SV.two:SV→Option (IntKind × Int × Int)
  | .agg [.d (.v (.int k a)),.d (.v (.int k' b))]=>if k=k' then some (k,a,b) else none
  | _=>none
theorem SV.two_ok {I:In} {s:SV} {k:IntKind} {a b:Int} {u:Value} (h:s.two=some (k,a,b)) (hs:SVok I s u):u=.agg #[.int k a,.int k b]:=by
  unfold SV.two at h
  split at h
  · split at h
    · rename_i k0 a0 k1 b0 hkk
      simp only [Option.some.injEq,Prod.mk.injEq] at h
      obtain ⟨rfl,rfl,rfl⟩:=h
      subst hkk
      cases hs with
      | agg _ us hn hc =>
        have h0:=hc 0 _ rfl
        have h1:=hc 1 _ rfl
        have g0:us.getD 0 undef=.int k0 a0:=by
          generalize us.getD 0 undef=v at h0
          cases h0 with | d _ _ h0=>cases h0; rfl
        have g1:us.getD 1 undef=.int k0 b0:=by
          generalize us.getD 1 undef=v at h1
          cases h1 with | d _ _ h1=>cases h1; rfl
        have hn2:us.size=2:=by simpa using hn
        congr 1
        apply Array.ext
        · simpa using hn2
        · intro i hi1 hi2
          have hi:i=0∨i=1:=by omega
          rcases hi with rfl | rfl
          · simpa [Array.getD,hi1] using g0
          · simpa [Array.getD,hi1] using g1
    · cases h
  · cases h

section
variable {P:Program} {o:Oper}
theorem OpS.eq2 (q:Nat) (s0:St) {op:BinOp} {t yt e:TypeId} {k:IntKind} {i:TI} {x y:Operand} {a0 a1 b0 b1:Int} {r:Bool} (h2:Eq2Ok P t e k) (he:TyOk P e i) (hk:i.k=.int k) (h:o.op=.binOp op t x y yt)
    (hop:(op=.eql∧r=(a0 == b0&&a1 == b1))∨(op=.neq∧r=!(a0 == b0&&a1 == b1))) (hx:(s0.eval x).two=some (k,a0,a1)) (hy:(s0.eval y).two=some (k,b0,b1)):OpS P o q (preOf s0 x++preOf s0 y) [] (.one (.d (.v (.bool r)))) []:=by
  refine .quiet fun w M n I s a hS _ hr=>⟨.bool r,.v I _ rfl,?_⟩
  obtain ⟨e1,e2⟩:=preOfs_two hS
  have hex:=hr.eval x
  have hey:=hr.eval y
  rw [e1] at hex
  rw [e2] at hey
  have g1:=SV.two_ok hx hex
  have g2:=SV.two_ok hy hey
  have h9:=eq2_run h2 he hk x y a0 a1 b0 b1 I.W
  have:((do eqGuard op t x y (.agg #[.int k a0,.int k a1]) (.agg #[.int k b0,.int k b1]); binOp op t (.agg #[.int k a0,.int k a1]) (.agg #[.int k b0,.int k b1])):Sem Value).run P I.W=.ok (.bool r) I.W:=by
    rcases hop with ⟨rfl,rfl⟩ | ⟨rfl,rfl⟩
    · exact h9.1
    · exact h9.2
  simp only [execOp,h,g1,g2]
  simp only [Sem.run_bind] at this ⊢
  cases hg:(eqGuard op t x y (.agg #[.int k a0,.int k a1]) (.agg #[.int k b0,.int k b1])).run P I.W with
  | ok b w1=>rw [hg] at this; simp only [Result.andThen_ok] at this ⊢; rw [this]; rfl
  | halt b w1=>rw [hg] at this; simp at this
end
section
variable {P:Program} {n:Nat} {ops:Array Oper} {l:List Oper} {q:Nat} {s:St} {fps:List FP} {K:St→Prop} {o:Oper}
variable {gs:List (Nat × SV)} (hg:Let n ops o s gs) (hd:dstB o n=true)
include hg hd
theorem Seg.eq2 {t0 yt e:TypeId} {k:IntKind} {i:TI} {x y:Operand} {a0 a1 b0 b1:Int} (h2:Eq2Ok P t0 e k) (he:TyOk P e i) (hk:i.k=.int k) (h:o.op=.binOp .eql t0 x y yt) (hx:(s.eval x).two=some (k,a0,a1)) (hy:(s.eval y).two=some (k,b0,b1)) {fp:FP}
    (hfp:(⟨(gs++(preOf s x++preOf s y)).map (·.1),o.dst,[],[]⟩:FP)=fp) (t:Seg P n ops l (q+1) (s.putO o.dst (.one (.d (.v (.bool (a0 == b0&&a1 == b1)))))) fps K):Seg P n ops (o::l) q s (fp::fps) K:=by
  subst hfp
  exact Seg.op hg hd (.eq2 q s h2 he hk h (.inl ⟨rfl,rfl⟩) hx hy) (app_self (pre_self s x) (pre_self s y)) (by simp) t
end
end Go.Ev

namespace Go.Ev
variable [Lay]

def Sg (P:Program) (n:Nat) (ops:Array Oper) (l:List Oper) (k:Nat) (s:St) (K:St→Prop):Prop:=∃ fps,Seg P n ops l k s fps K

section
variable {P:Program} {n:Nat} {ops:Array Oper} {l:List Oper} {k:Nat} {s s':St} {K:St→Prop} {o:Oper} {Q:Exit→St→Prop}
theorem Wp.rs {id:Nat} (h:∀ k,Sg P n ops ops.toList k s (Q .normal)):Wp P n (.region id ops false) s Q:=.region fun k=>by
  obtain ⟨fps,xs,s',h1,_,h3⟩:=h k
  exact ⟨xs,s',h1,h3⟩
theorem Sg.z (h:K s):Sg P n ops [] k s K:=⟨_,.nil h⟩
theorem Sg.g (h:∀ fps,Seg P n ops l (k+1) s' fps K→∃ fp,Seg P n ops (o::l) k s (fp::fps) K) (t:Sg P n ops l (k+1) s' K):Sg P n ops (o::l) k s K:=by
  obtain ⟨fps,t⟩:=t
  obtain ⟨fp,h⟩:=h fps t
  exact ⟨_,h⟩
theorem dst_ok {d:Nat} (h:o.dst=some d) (hn:Nat.blt d n=true):dstB o n=true:=by
  simpa [dstB,h] using hn
theorem Sg.mv {d:Nat} {x:Operand} {c:C} (h:(o.guard,o.dst,Nat.blt d n,o.op,s.eval x)=(none,some d,true,.move x,.one c)) (t:Sg P n ops l (k+1) (s.put d (.one c)) K):Sg P n ops (o::l) k s K:=by
  simp only [Prod.mk.injEq] at h
  obtain ⟨h1,h2,h3,h4,h5⟩:=h
  exact .g (fun _ t=>⟨_,.move (.no h1) (dst_ok h2 h3) h4 h5 rfl (by rw [h2]; exact t)⟩) t
theorem Sg.as {d:Nat} {x:Operand} {c:C} (h:(o.guard,o.dst,Nat.blt d n,o.op,s.eval x)=(none,some d,true,.assign x,.one c)) (t:Sg P n ops l (k+1) (s.put d (.one c)) K):Sg P n ops (o::l) k s K:=by
  simp only [Prod.mk.injEq] at h
  obtain ⟨h1,h2,h3,h4,h5⟩:=h
  exact .g (fun _ t=>⟨_,.assign (.no h1) (dst_ok h2 h3) h4 h5 rfl (by rw [h2]; exact t)⟩) t
theorem Sg.bi {d:Nat} {op:BinOp} {t0 yt:TypeId} {x y:Operand} {vx vy v:Value} (h:(o.guard,o.dst,Nat.blt d n,o.op,(s.eval x).plain,(s.eval y).plain,binF op vx vy)=(none,some d,true,.binOp op t0 x y yt,some vx,some vy,some v))
    (t:Sg P n ops l (k+1) (s.put d (.one (.d (.v v)))) K):Sg P n ops (o::l) k s K:=by
  simp only [Prod.mk.injEq] at h
  obtain ⟨h1,h2,h3,h4,h5,h6,h7⟩:=h
  exact .g (fun _ t=>⟨_,.bin (.no h1) (dst_ok h2 h3) h4 h5 h6 h7 rfl (by rw [h2]; exact t)⟩) t
theorem Sg.un {d:Nat} {op:UnOp} {t0:TypeId} {x:Operand} {vx v:Value} (h:(o.guard,o.dst,Nat.blt d n,o.op,(s.eval x).plain,unF op vx)=(none,some d,true,.unOp op t0 x,some vx,some v))
    (t:Sg P n ops l (k+1) (s.put d (.one (.d (.v v)))) K):Sg P n ops (o::l) k s K:=by
  simp only [Prod.mk.injEq] at h
  obtain ⟨h1,h2,h3,h4,h5,h7⟩:=h
  exact .g (fun _ t=>⟨_,.un (.no h1) (dst_ok h2 h3) h4 h5 h7 rfl (by rw [h2]; exact t)⟩) t
theorem Sg.ld {d:Nat} {t0:TypeId} {i:TI} {x:Operand} {c c':C} {cs:List C} {pre:Objs} (ht:TyOk P t0 i) (h:(o.guard,o.dst,Nat.blt d n,o.op,s.eval x)=(none,some d,true,.load t0 x,.one c)) (hat:At s c cs pre)
    (hv:(Nat.ble i.size cs.length,Nat.blt 0 cs.length,loadSV i cs)=(true,true,.one c')) (t:Sg P n ops l (k+1) (s.put d (.one c')) K):Sg P n ops (o::l) k s K:=by
  simp only [Prod.mk.injEq] at h hv
  obtain ⟨h1,h2,h3,h4,h5⟩:=h
  exact .g (fun _ t=>⟨_,.load (.no h1) (dst_ok h2 h3) ht h4 h5 hat hv.1 hv.2.1 hv.2.2 rfl (by rw [h2]; exact t)⟩) t
theorem Sg.lda {d:Nat} {t0:TypeId} {i:TI} {x:Operand} {c:C} {cs cs':List C} {pre:Objs} (ht:TyOk P t0 i) (h:(o.guard,o.dst,Nat.blt d n,o.op,s.eval x)=(none,some d,true,.load t0 x,.one c)) (hat:At s c cs pre)
    (hv:(Nat.ble i.size cs.length,Nat.blt 0 cs.length,loadSV i cs)=(true,true,.agg cs')) (t:Sg P n ops l (k+1) (s.put d (.agg cs')) K):Sg P n ops (o::l) k s K:=by
  simp only [Prod.mk.injEq] at h hv
  obtain ⟨h1,h2,h3,h4,h5⟩:=h
  exact .g (fun _ t=>⟨_,.load (.no h1) (dst_ok h2 h3) ht h4 h5 hat hv.1 hv.2.1 hv.2.2 rfl (by rw [h2]; exact t)⟩) t
theorem Sg.fp {d:Nat} {t0:TypeId} {i:TI} {fs:List (Nat × TypeId)} {fno fo:Nat} {ft:TypeId} {fi:TI} {x:Operand} {r:Id} {k0 off:Nat} (ht:TyOk P t0 i) (hft:TyOk P ft fi)
    (h:(o.guard,o.dst,Nat.blt d n,o.op,i.k,fs[fno]?,Nat.blt 0 fi.size,s.eval x)=(none,some d,true,.fieldAddr t0 x fno,.st fs,some (fo,ft),true,.one (.ptr r k0 off))) (t:Sg P n ops l (k+1) (s.put d (.one (.ptr r k0 (off+fo)))) K):Sg P n ops (o::l) k s K:=by
  simp only [Prod.mk.injEq] at h
  obtain ⟨h1,h2,h3,h4,h5,h6,h7,h8⟩:=h
  exact .g (fun _ t=>⟨_,.fieldAddrP (.no h1) (dst_ok h2 h3) ht h5 h6 hft h7 h4 h8 rfl (by rw [h2]; exact t)⟩) t
theorem Sg.c0 {d:Nat} {c:Call} {fo:Operand} {f:FuncId} {fsh sh rsh shT:Sh} {fcs cs caps:List C} {ds outs:List D} {gs':List (List Id)} {nl:List NL} {fz:List Bool} (hT:Trip P f shT ds rsh outs [])
    (h:(o.guard,o.dst,Nat.blt d n,o.op,c.callee,calleeC (s.eval fo),argsC s c.args.toList,fsh++sh++caps.map (fun _=>(false,1)))=(none,some d,true,.call c,.value fo,some (f,fsh,fcs,caps),some (sh,cs),shT))
    (hgv:Given [] [] (fcs++cs++caps) ds gs') (hh:Held k outs nl fz) {s':St} {v:SV}
    (h2:(gs'.flatten,nodupB (idsOf (objsOf k nl)),rsh.total,shB rsh,s.upds (updMany [] (objsOf k nl)),resSV rsh (nl.map (NL.cell k)))=([],true,outs.length,true,s',v))
    (t:Sg P n ops l (k+1) (s'.put d v) K):Sg P n ops (o::l) k s K:=by
  simp only [Prod.mk.injEq] at h h2
  obtain ⟨h1,h2',h3,h4,h5,h6,h7,h8⟩:=h
  obtain ⟨g1,g2,g3,g4,g5,g6⟩:=h2
  exact .g (fun _ t=>⟨_,.call (.no h1) (dst_ok h2' h3) [] [] hT h4 h5 h6 h7 h8 hgv (by rw [g1]; first | done | rfl) (by rw [g1]; first | done | rfl) (fun h=>absurd rfl h) hh .nil (nla:=[]) (s':=s') (by rw [List.append_nil]; exact g2) g3 g4 (by simp) (by rw [g1,List.append_nil]; exact g5) g6 rfl (by rw [h2']; exact t)⟩) t
theorem Wp.sl {c:Code} {t e sz:Nat} {α:Type} {f:α→List D} {L:List α} (hs:s.slots t=.one (.d (.sl false e sz (List.map f L)))) (h:L.length≤9223372036854775807→Wp P n c s Q):Wp P n c s Q:=.sat hs fun h1=>h h1.maplen
theorem Wp.sla {c:Code} {t e sz:Nat} (i:Nat) {α:Type} {f:α→List D} {L:List α} {l:List C} (hs:s.slots t=.agg l) (hi:l[i]?=some (.d (.sl false e sz (List.map f L)))) (h:L.length≤9223372036854775807→Wp P n c s Q):Wp P n c s Q:=.satA hs hi fun h1=>h h1.maplen
theorem fin0 {fn:Func} {rsh:Sh} {outs:List D} {aft:List (Nat × D)} {e:Exit} (he:e=.normal∨e=.ret) {cs:List C} {gs:List (List Id)} (r:Res P s fn.results.toList rsh cs) (g:Given [] [] (cs++aft.map acell) (outs++aft.map (·.2)) gs) (hn:gs.flatten=[]) :
    (e=.normal∨e=.ret)∧Ent s (Fin P fn rsh outs aft):=⟨he,.done ⟨_,[],[],_,r,g,by rw [hn]; exact .nil,by simp,by simp⟩⟩
theorem fin1 {fn:Func} {rsh:Sh} {outs:List D} {aft:List (Nat × D)} {e:Exit} (he:e=.normal∨e=.ret) {cs:List C} {gs:List (List Id)} (R:List Id) (preH:Objs) (r:Res P s fn.results.toList rsh cs) (g:Given R preH (cs++aft.map acell) (outs++aft.map (·.2)) gs) (hn:nodupB gs.flatten=true)
    (hR:(R.all fun r=>!gs.flatten.contains r)=true) (hH:AllH s preH):(e=.normal∨e=.ret)∧Ent s (Fin P fn rsh outs aft):=⟨he,.done ⟨_,R,preH,_,r,g,nodupB_ok hn,fun r hr=>by simpa using List.all_eq_true.1 hR r hr,hH.get⟩⟩
end
theorem Given.dd {R:List Id} {preH:Objs} {x:D} {cs:List C} {ds:List D} {gs:List (List Id)} (t:Given R preH cs ds gs):Given R preH (.d x::cs) (x::ds) ([]::gs):=.cons (Reads.d _).gives t
theorem AllS.r {s:St}:∀ {A:List (Nat × SV)},(A.map fun p=>s.slots p.1)=A.map (·.2)→AllS s A
  | [],_=>.nil
  | (_,_)::_,h=>.cons (List.cons.inj h).1 (AllS.r (List.cons.inj h).2)
theorem AllH.r {s:St}:∀ {A:Objs},(A.map fun p=>s.H p.1)=A.map (fun p=>some p.2)→AllH s A
  | [],_=>.nil
  | (_,_)::_,h=>.cons (List.cons.inj h).1 (AllH.r (List.cons.inj h).2)
section
variable {a b:Bool} {A B:Prop}
theorem oT (f:a=true→A) (g:b=true→B) (h:(a||b)=true):A∨B:=(Bool.or_eq_true _ _ ▸ h:a=true∨b=true).imp f g
theorem oF (f:a=false→A) (g:b=false→B) (h:(a||b)=false):A∧B:=(Bool.or_eq_false_iff.1 h).imp f g
theorem aT (f:a=true→A) (g:b=true→B) (h:(a&&b)=true):A∧B:=(Bool.and_eq_true_iff.1 h).imp f g
theorem aF (f:a=false→A) (g:b=false→B) (h:(a&&b)=false):A∨B:=(Bool.and_eq_false_iff.1 h).imp f g
theorem nT (f:a=false→A) (h:(!a)=true):A:=f (by simpa using h)
theorem nF (f:a=true→A) (h:(!a)=false):A:=f (by simpa using h)
theorem dT {p:Prop} [Decidable p] (h:decide p=true):p:=of_decide_eq_true h
theorem dF {p:Prop} [Decidable p] (h:decide p=false):¬ p:=of_decide_eq_false h
theorem eT {α:Type} [BEq α] [LawfulBEq α] {x y:α} (h:(x == y)=true):x=y:=eq_of_beq h
theorem eF {α:Type} [BEq α] [LawfulBEq α] {x y:α} (h:(x == y)=false):¬ x=y:=fun e=>by rw [e,beq_self_eq_true] at h; cases h
theorem bT {α:Type} [BEq α] [LawfulBEq α] {x y:α} (h:(x != y)=true):¬ x=y:=by simpa using h
theorem bF {α:Type} [BEq α] [LawfulBEq α] {x y:α} (h:(x != y)=false):x=y:=by simpa using h
end
end Go.Ev

namespace Go.Ev
variable [Lay]

section
variable {P:Program} {n:Nat} {ops:Array Oper} {l:List Oper} {k:Nat} {s:St} {fps:List FP} {K:St→Prop} {o:Oper}
variable {gs:List (Nat × SV)} (hg:Let n ops o s gs) (hd:dstB o n=true)
include hg hd
theorem Seg.shr {t0 yt:TypeId} {x y:Operand} {k1 k2:IntKind} {a b z:Int} (h:o.op=.binOp .shr t0 x y yt) (hx:(s.eval x).plain=some (.int k1 a)) (hy:(s.eval y).plain=some (.int k2 b)) (h0:0≤b) (hz:a.fdiv (2 ^ (Nat.min b.toNat k1.bits))=z) {fp:FP}
    (hfp:(⟨(gs++(preOf s x++preOf s y)).map (·.1),o.dst,[],[]⟩:FP)=fp) (t:Seg P n ops l (k+1) (s.putO o.dst (.one (.d (.v (.int k1 z))))) fps K):Seg P n ops (o::l) k s (fp::fps) K:=by
  subst hz
  exact Seg.bin hg hd h hx hy (by have : ¬ b < 0 := by omega
                                  simp [binF,this]) hfp t
theorem Seg.binN {op:BinOp} {t0 yt:TypeId} {x y:Operand} {vx vy:Value} {k1:IntKind} {z z':Int} (hz:z=z') (h:o.op=.binOp op t0 x y yt) (hx:(s.eval x).plain=some vx) (hy:(s.eval y).plain=some vy) (hv:binF op vx vy=some (.int k1 z)) {fp:FP}
    (hfp:(⟨(gs++(preOf s x++preOf s y)).map (·.1),o.dst,[],[]⟩:FP)=fp) (t:Seg P n ops l (k+1) (s.putO o.dst (.one (.d (.v (.int k1 z'))))) fps K):Seg P n ops (o::l) k s (fp::fps) K:=by
  subst hz
  exact Seg.bin hg hd h hx hy hv hfp t
end
end Go.Ev

namespace Go.Ev
open Go.ChangeShapes Go.WideShapes Go.RowKit
variable [Lay]

section
variable {P:Program}
end
end Go.Ev

namespace Go.Ev
variable [Lay]
theorem Ent.nilBox {s:St} {K:St→Prop} (rb:Id) (i:Nat) (r:Id) (e sz:Nat) {kb mb:Nat} {cells:List C} (hb:s.H rb=some (kb,mb,.box cells)) (hc:cells[i]?=some (.d (.v (.slice none 0 0)))) (hne:r≠rb)
    (h:∀ k,Ent ((s.obj r (some (k,k,.row e sz []))).obj rb (some (kb,k,.box (cells.set i (.ref r k))))) K):Ent s K:=fun w M n U a W k hf hr=>by
  obtain ⟨I,hW,hU,hI⟩:=hr
  subst hW hU
  have hk:¬ I.U k:=hf k (Nat.le_refl _)
  have hbI:I.H rb=some (kb,mb,.box cells):=by rw [hI.hH]; exact hb
  obtain ⟨hukb,humb,g,us,t,hg1,hg2,hg3,hg4,hg5⟩:=hI.objs rb kb mb _ hbI
  let J:In:={ I with U:=fun m=>I.U m∨m=k,hd:=up I.hd r (.slice none 0 0),S:=fun q=>if q=r then fun _=>False else I.S q,H:=fun q=>if q=rb then some (kb,k,.box (cells.set i (.ref r k))) else if q=r then some (k,k,.row e sz []) else I.H q }
  have hJr:J.H r=some (k,k,.row e sz []):=(if_neg hne).trans (if_pos rfl)
  have hJb:J.H rb=some (kb,k,.box (cells.set i (.ref r k))):=if_pos rfl
  have hdb:J.hd rb=I.hd rb:=if_neg (fun e=>hne e.symm)
  have hSb:J.S rb=I.S rb:=if_neg (fun e=>hne e.symm)
  have c:Chg (fun q=>q=r∨q=rb) I J:=by
    refine { same:=fun q hq=>⟨?_,if_neg (fun e=>hq (.inl e)),if_neg (fun e=>hq (.inl e))⟩,z:=fun _ h=>h,u:=fun _ h=>.inl h,ext:=.refl _ _,stamps:=?_,sets:=?_,disj:=?_,zone:=fun b hb=>⟨hI.zone b hb,.inl hb⟩ }
    · show (if q=rb then _ else if q=r then _ else I.H q)=_
      rw [if_neg (fun e=>hq (.inr e)),if_neg (fun e=>hq (.inl e))]
    · intro q k' m o hq ho
      rcases hq with rfl | rfl
      · rw [hJr] at ho
        simp only [Option.some.injEq,Prod.mk.injEq] at ho
        obtain ⟨rfl,rfl,_⟩:=ho
        exact ⟨hk,.inr rfl,.inr rfl,.inl hk⟩
      · rw [hJb] at ho
        simp only [Option.some.injEq,Prod.mk.injEq] at ho
        obtain ⟨rfl,rfl,rfl⟩:=ho
        exact ⟨hk,.inr rfl,.inl hukb,.inr ⟨_,_,hbI,hdb,fun _ _ _ h=>by cases h⟩⟩
    · intro q x hq _ b hb
      rcases hq with rfl | rfl
      · have:J.S q=fun _=>False:=if_pos rfl
        rw [this] at hb; exact hb.elim
      · rw [hSb] at hb
        have h3:=hI.sets q _ hbI b hb
        exact ⟨h3.1,h3.2.1,.inl ⟨q,_,.inr rfl,hbI,hb⟩⟩
    · intro q q' _ _ hne2 hq hq' _ _ b hb hb'
      have h0:J.S r=fun _=>False:=if_pos rfl
      rcases hq with rfl | rfl
      · rw [h0] at hb; exact hb
      · rcases hq' with rfl | rfl
        · rw [h0] at hb'; exact hb'
        · exact hne2 rfl
  have hus:us.getD i undef=.slice none 0 0:=by
    have h9:=hg5 i _ hc
    generalize us.getD i undef=u at h9
    cases h9 with
    | d _ _ h=>cases h; rfl
  have hil:i < cells.length:=(List.getElem?_eq_some_iff.1 hc).1
  have hJ:RelI w M n J ((s.obj r (some (k,k,.row e sz []))).obj rb (some (kb,k,.box (cells.set i (.ref r k))))) a:=hI.chg c
      (by funext q; show (if q=rb then _ else if q=r then _ else I.H q)=(if q=rb then _ else if q=r then _ else s.H q); rw [hI.hH]) rfl fun q k' m o hq ho=>by
    rcases hq with rfl | rfl
    · rw [hJr] at ho
      simp only [Option.some.injEq,Prod.mk.injEq] at ho
      obtain ⟨_,_,rfl⟩:=ho
      show Ow _ _ _ _ (J.hd q)
      have h2:J.hd q=.slice none 0 0:=if_pos rfl
      rw [h2]; exact .nil _ _ _ _ _
    · rw [hJb] at ho
      simp only [Option.some.injEq,Prod.mk.injEq] at ho
      obtain ⟨_,_,rfl⟩:=ho
      refine ⟨g,us,t,hdb.trans hg1,by rw [hSb]; exact hg2,hg3,by rw [List.length_set]; exact hg4,fun j cj hj=>?_⟩
      rw [List.getElem?_set] at hj
      split at hj
      · rename_i hij
        subst hij
        obtain rfl:=Option.some.inj hj
        rw [hus]
        refine .ref r k _ (.inr rfl) rfl fun m o _=>?_
        show _=up I.hd r _ r
        rw [up_same]
      · exact (hg5 j cj hj).later (c.later hI)
  exact h k w M n _ a I.W (k+1) (fun m hm hU=>hU.elim (hf m (by omega)) (fun h=>by omega)) ⟨J,rfl,rfl,hJ⟩
theorem nat_iv {k:IntKind} {a:Int} {n:Nat} (h:a=(n:Int)):some (Value.int k a)=some (Value.int k (n:Int)):=by rw [h]
end Go.Ev

namespace Go.Ev
variable [Lay]
def D.hole:D→D
  | .v y=>.v y
  | .fn f a b=>.fn f a b
  | .any x=>.any x
  | .sl false e sz l=>.sl false e sz l
  | .pt false l=>.pt false l
  | .sl true _ _ _=>.any 0
  | .pt true _=>.any 0
theorem Ow.hole {W:World} {Z S:Nat→Prop} {d:D} {u:Value} (h:Ow W Z S d u):Ow W Z (fun _=>False) d.hole u:=by
  cases d with
  | v y=>cases h with | rd _ _ _ h=>exact .rd _ _ _ h
  | fn f a b=>cases h with | rd _ _ _ h=>exact .rd _ _ _ h
  | any x=>cases h with | rd _ _ _ h=>exact .rd _ _ _ h
  | sl b e sz l =>
    cases b with
    | false=>cases h with | rd _ _ _ h=>exact .rd _ _ _ h
    | true=>exact .rd _ _ _ (.any 0 u h.one)
  | pt b l =>
    cases b with
    | false=>cases h with | rd _ _ _ h=>exact .rd _ _ _ h
    | true=>exact .rd _ _ _ (.any 0 u h.one)
def holed (a n:Nat) (el:List D):List D:=el.zipIdx.map fun p=>if Nat.ble a p.2&&Nat.blt p.2 (a+n) then p.1.hole else p.1
theorem holed_get (a n:Nat) (el:List D) (j:Nat):(holed a n el)[j]?=el[j]?.map fun d=>if Nat.ble a j&&Nat.blt j (a+n) then d.hole else d:=by
  simp only [holed,List.getElem?_map,List.getElem?_zipIdx,Nat.zero_add]
  cases el[j]?<;>rfl
theorem holed_len (a n:Nat) (el:List D):(holed a n el).length=el.length:=by simp [holed]
def takeNL (id:Id) (st:Nat):Nat→List D→List NL
  | _,[]=>[]
  | j,d::l=>⟨id++[j],st,st,d⟩::takeNL id st (j+1) l
theorem takeNL_get (id:Id) (st:Nat):∀ (l:List D) (j t:Nat),(takeNL id st j l)[t]?=l[t]?.map fun d=>⟨id++[j+t],st,st,d⟩
  | [],j,t=>by simp [takeNL]
  | d::l,j,0=>by simp [takeNL]
  | d::l,j,t+1=>by
    simp only [takeNL,List.getElem?_cons_succ,takeNL_get id st l (j+1) t]
    rw [show j+1+t=j+(t+1) by omega]
theorem takeNL_len (id:Id) (st:Nat):∀ (l:List D) (j:Nat),(takeNL id st j l).length=l.length
  | [],_=>rfl
  | d::l,j=>by simp [takeNL,takeNL_len id st l (j+1)]

section
variable {P:Program} {o:Oper}
theorem OpS.take (st:Nat) (s0:St) {t0:TypeId} {it:TI} (ht:TyOk P t0 it) {x:Operand} {r:Id} {k i off m e sz:Nat} {els:List (List D)} {el:List D} (hop:o.op=.load t0 x) (hx:s0.eval x=.one (.eptr r k i off))
    (hi:els[i]?=some el) (id:Id) (hle:off+it.size≤el.length) (h0:0 < it.size)
    (hnd:(idsOf (objsOf st (⟨r,k,st,.sl true e sz (els.set i (holed off it.size el))⟩::takeNL id st 0 ((el.drop off).take it.size)))).Nodup) :
    OpS P o st (preOf s0 x) [(r,(k,m,.row e sz els))] (loadSV it ((takeNL id st 0 ((el.drop off).take it.size)).map (NL.cell st)))
      (updMany [r] (objsOf st (⟨r,k,st,.sl true e sz (els.set i (holed off it.size el))⟩::takeNL id st 0 ((el.drop off).take it.size)))):=by
  intro w M n U s a W next Q hS hHs hst hdn ⟨I,hW,hU,hr⟩ hn
  subst hW hU
  have hH:I.H r=some (k,m,.row e sz els):=by rw [hr.hH]; exact hHs (r,_) (by simp)
  obtain ⟨huk,hum,hook⟩:=hr.objs r k m _ hH
  have hook:Ow I.W I.Z (I.S r) (.sl true e sz els) (I.hd r):=hook
  have he:=hr.eval x
  rw [eval_pre hS,hx] at he
  obtain ⟨g,n0,c0,hhd,hptr⟩:∃ g n c,I.hd r=.slice (some ⟨g,0,none⟩) n c∧a.eval x=.pointer (some ⟨g,i * sz+off,none⟩):=by
    generalize a.eval x=u at he ⊢
    cases he with
    | one _ _ hc =>
      cases hc with
      | eptr _ _ _ _ g p hu hg =>
        obtain ⟨n',c',h1,rfl⟩:=hg m e sz els hH
        exact ⟨g,n',c',h1,rfl⟩
  generalize hu:I.hd r=u at hook hhd
  cases hook with
  | rd _ _ _ h=>cases h
  | sl _ _ _ _ _ cells T val hrow hmax hSb hTb hdis hlen hcell how =>
    have hown:u.ownBlock=some g:=by rw [hhd]; rfl
    have hval:∀ q d,el[q]?=some d→I.W.cell? ⟨g,i * sz+q,none⟩=some (val i q):=fun q d hq=>by
      have h1:=hrow.cells (g:=g) hown _ _ (hcell i el q _ hi hq)
      rwa [at_plain,Nat.zero_add] at h1
    have hseg:∀ t d,((el.drop off).take it.size)[t]?=some d→t < it.size∧el[off+t]?=some d:=fun t d ht=>by
      rw [List.getElem?_take] at ht
      split at ht
      · rename_i hlt; rw [List.getElem?_drop] at ht; exact ⟨hlt,ht⟩
      · cases ht
    let S:Nat→Nat→Prop:=fun t b=>match t with
      | 0=>I.S r b∧∀ q,off≤q→q < off+it.size→¬ T i q b
      | t+1=>t < it.size∧T i (off+t) b
    let uu:Nat→Value:=fun t=>match t with
      | 0=>u
      | t+1=>val i (off+t)
    have hrowS:Ow I.W I.Z (S 0) (.sl true e sz (els.set i (holed off it.size el))) u:=by
      have hget:∀ (j:Nat) (y:List D),(els.set i (holed off it.size el))[j]?=some y→(j=i∧y=holed off it.size el)∨(j≠i∧els[j]?=some y):=fun j y hj=>by
        rw [List.getElem?_set] at hj
        split at hj
        · rename_i h1
          split at hj
          · simp only [Option.some.injEq] at hj; exact .inl ⟨h1.symm,hj.symm⟩
          · cases hj
        · rename_i h1; exact .inr ⟨fun e=>h1 e.symm,hj⟩
      refine .sl _ e sz _ u cells (fun j q b=>T j q b∧¬ (j=i∧off≤q∧q < off+it.size)) val (by rw [List.length_set]; exact hrow) (by rw [List.length_set]; exact hmax) ?_ ?_ ?_ ?_ ?_ ?_
      · intro b hb
        exact ⟨hSb b hb,fun q _ _ hT=>(hTb i q b hT).2 hb⟩
      · intro j q b ⟨hb,hne⟩
        refine ⟨⟨(hTb j q b hb).1,fun q' h1 h2 hT=>?_⟩,(hTb j q b hb).2⟩
        have h3:=hdis j q i q' b hb hT
        exact hne ⟨h3.1,by omega,by omega⟩
      · intro j q j' q' b hb hb'
        exact hdis j q j' q' b hb.1 hb'.1
      · intro j y hj
        rcases hget j y hj with ⟨rfl,rfl⟩ | ⟨_,hj⟩
        · rw [holed_len]; exact hlen _ _ hi
        · exact hlen j y hj
      · intro j y q c hj hq
        rcases hget j y hj with ⟨rfl,rfl⟩ | ⟨_,hj⟩
        · rw [holed_get] at hq
          simp only [Option.map_eq_some_iff] at hq
          obtain ⟨d,hq,_⟩:=hq
          exact hcell _ _ _ _ hi hq
        · exact hcell _ _ _ _ hj hq
      · intro j y q c hj hq
        rcases hget j y hj with ⟨rfl,rfl⟩ | ⟨hne,hj⟩
        · rw [holed_get] at hq
          simp only [Option.map_eq_some_iff] at hq
          obtain ⟨d,hq,rfl⟩:=hq
          have h1:=how j el q d hi hq
          split
          · exact h1.hole.mono fun b hb=>hb.elim
          · rename_i hc
            refine h1.mono fun b hb=>⟨hb,fun h2=>hc ?_⟩
            simp only [Bool.and_eq_true,Nat.ble_eq,Nat.blt_eq]
            exact h2.2
        · exact (how j y q c hj hq).mono fun b hb=>⟨hb,fun h2=>hne h2.1⟩
    have hn1:∀ b,S 0 b→b < I.W.heap.size∧¬ I.Z b∧I.S r b:=fun b hb=>by
      have:=hr.sets r _ hH b hb.1
      exact ⟨this.1,this.2.1,hb.1⟩
    have hn2:∀ t b,S (t+1) b→b < I.W.heap.size∧¬ I.Z b∧I.S r b:=fun t b hb=>by
      have h1:=(hTb i _ b hb.2).1
      have:=hr.sets r _ hH b h1
      exact ⟨this.1,this.2.1,h1⟩
    have hn3:∀ t b,S t b→b < I.W.heap.size∧¬ I.Z b∧I.S r b:=fun t b hb=>by
      cases t with
      | zero=>exact hn1 b hb
      | succ t=>exact hn2 t b hb
    obtain ⟨J,hJW,hJU,hJZ,hJ,hcells⟩:=hr.after [r] st hst I.W I.Z (⟨r,k,st,.sl true e sz (els.set i (holed off it.size el))⟩::takeNL id st 0 ((el.drop off).take it.size)) uu S (.refl _ _) (fun _ h=>h) (fun b hb=>⟨hr.zone b hb,.inl hb⟩)
      (fun t y hy=>by
        cases t with
        | zero =>
          simp only [List.getElem?_cons_zero,Option.some.injEq] at hy
          subst hy
          exact hrowS
        | succ t =>
          simp only [List.getElem?_cons_succ,takeNL_get,Option.map_eq_some_iff] at hy
          obtain ⟨d,hd,rfl⟩:=hy
          obtain ⟨h1,h2⟩:=hseg t d hd
          exact (how i el (off+t) d hi h2).mono fun b hb=>⟨h1,hb⟩)
      (fun t b _ hb=>⟨(hn3 t b hb).1,(hn3 t b hb).2.1,.inl ⟨r,_,by simp,hH,(hn3 t b hb).2.2⟩⟩)
      (fun t t' b hne hb hb'=>by
        cases t with
        | zero =>
          cases t' with
          | zero=>exact hne rfl
          | succ t'=>exact hb.2 _ (by omega) (by have:=hb'.1; omega) hb'.2
        | succ t =>
          cases t' with
          | zero=>exact hb'.2 _ (by omega) (by have:=hb.1; omega) hb.2
          | succ t' =>
            have:=hdis i _ i _ b hb.2 hb'.2
            exact hne (by omega))
      hnd
      (fun t y hy=>by
        cases t with
        | zero =>
          simp only [List.getElem?_cons_zero,Option.some.injEq] at hy
          subst hy
          exact ⟨rfl,.inr ⟨by simp,m,_,hH,hu.symm,fun e' sz' l' h1=>by
            simp only [D.sl.injEq,true_and] at h1
            obtain ⟨rfl,rfl,_⟩:=h1
            exact ⟨els,rfl⟩⟩⟩
        | succ t =>
          simp only [List.getElem?_cons_succ,takeNL_get,Option.map_eq_some_iff] at hy
          obtain ⟨d,hd,rfl⟩:=hy
          exact ⟨rfl,.inl rfl⟩)
    have hlen2:((takeNL id st 0 ((el.drop off).take it.size)).map (NL.cell st)).length=it.size:=by
      rw [List.length_map,takeNL_len,List.length_take,List.length_drop]; omega
    have hld:∀ (j:Nat) (c':C),((takeNL id st 0 ((el.drop off).take it.size)).map (NL.cell st))[j]?=some c'→∃ v,J.W.cell? ((⟨g,i * sz+off,none⟩:Addr).add j)=some v∧Cok J c' v:=fun j c' hj=>by
      simp only [List.getElem?_map,Option.map_eq_some_iff] at hj
      obtain ⟨y,hy,rfl⟩:=hj
      have h3:=hcells (j+1) y (by simpa using hy)
      rw [takeNL_get] at hy
      simp only [Option.map_eq_some_iff] at hy
      obtain ⟨d,hd,rfl⟩:=hy
      obtain ⟨h1,h2⟩:=hseg j d hd
      refine ⟨val i (off+j),?_,h3⟩
      rw [hJW,at_plain,Nat.add_assoc]
      exact hval _ d h2
    obtain ⟨hl1,hl2⟩:=loads (I:=J) ht hld
    rw [hJW] at hl1 hl2
    have hrun:∀ u,(loadVar t0 (⟨g,i * sz+off,none⟩:Addr)).run P I.W=.ok u I.W→(execOp a.eval o).run P I.W=.ok (.value u) I.W:=by
      intro u h
      simp [execOp,hop,Instr.loadAt,hptr,Instr.sureAddr,h]
    have hfin:∃ u,(execOp a.eval o).run P I.W=.ok (.value u) I.W∧SVok J (loadSV it ((takeNL id st 0 ((el.drop off).take it.size)).map (NL.cell st))) u:=by
      cases hag:it.k.agg with
      | true =>
        obtain ⟨u,h3,h4⟩:=hl1 hag (by rw [hlen2]; exact Nat.le_refl _)
        exact ⟨u,hrun u h3,by rw [loadSV,if_pos hag]; exact h4⟩
      | false =>
        generalize hcs:(takeNL id st 0 ((el.drop off).take it.size)).map (NL.cell st)=cs at *
        cases cs with
        | nil=>simp at hlen2; omega
        | cons c cs =>
          obtain ⟨u,h3,h4⟩:=hl2 hag c rfl
          exact ⟨u,hrun u h3,by rw [loadSV,if_neg (by rw [hag]; decide)]; exact h4⟩
    obtain ⟨v,hv1,hv2⟩:=hfin
    rw [Oper.wp,hv1]
    exact hn _ _ ⟨J,hJW,hJU,hJ.putO o.dst hdn hv2⟩
end
section
variable {P:Program} {n:Nat} {ops:Array Oper} {l:List Oper} {k:Nat} {s:St} {fps:List FP} {K:St→Prop} {o:Oper}
variable {gs:List (Nat × SV)} (hg:Let n ops o s gs) (hd:dstB o n=true)
include hg hd
theorem Seg.take {t0:TypeId} {it:TI} (ht:TyOk P t0 it) {x:Operand} {r:Id} {k0 i off m e sz:Nat} {els els':List (List D)} {el:List D} (hop:o.op=.load t0 x) (hx:s.eval x=.one (.eptr r k0 i off)) (hH:s.H r=some (k0,m,.row e sz els))
    (hi:els[i]?=some el) (id:Id) (hle:Nat.ble (off+it.size) el.length=true) (h0:Nat.blt 0 it.size=true) (hels:els.set i (holed off it.size el)=els')
    (hnd:nodupB (idsOf (objsOf k (⟨r,k0,k,.sl true e sz els'⟩::takeNL id k 0 ((el.drop off).take it.size))))=true)
    {v:SV} (hv:loadSV it ((takeNL id k 0 ((el.drop off).take it.size)).map (NL.cell k))=v) {us:List (Id × Option (Nat × Nat × O))} (hus:updMany [r] (objsOf k (⟨r,k0,k,.sl true e sz els'⟩::takeNL id k 0 ((el.drop off).take it.size)))=us) {fp:FP}
    (hfp:(⟨(gs++preOf s x).map (·.1),o.dst,[r],us.map (·.1)⟩:FP)=fp) (t:Seg P n ops l (k+1) ((s.upds us).putO o.dst v) fps K):Seg P n ops (o::l) k s (fp::fps) K:=by
  subst hels hv hus hfp
  exact Seg.op hg hd (.take k s ht hop hx hi id (by simpa using hle) (by simpa using h0) (nodupB_ok hnd)) (pre_self s x) (by simpa using hH) t
end
theorem cut_ref {α:Type} {f f':α→List D} {L:List α} {r:Id} {k m e sz lv:Nat} {lo:Operand} (hf:∀ x,(f x).map D.erase=f' x) :
    C.cutted e sz (List.map f L) (some lo) lv (List.map f L).length m (.ref r k)=.view r m (.sl false e sz (List.map f' (L.drop lv))):=by
  simp only [C.cutted,Option.isNone_some,Bool.false_eq_true,if_false,List.take_length,eraseLL,List.map_drop,List.map_map]
  congr 3
  exact List.map_congr_left fun x _=>hf x
theorem Gives.castE {R:List Id} {preH:Objs} {α:Type} {f:α→List D} {L L':List α} {c:C} {m:Bool} {e sz:Nat} {ks:List Id} (h:L=L') (g:Gives R preH c (.sl m e sz (List.map f L)) ks):Gives R preH c (.sl m e sz (List.map f L')) ks:=h ▸ g
end Go.Ev

namespace Go.Ev
variable [Lay]
section
variable {w:World} {M:Mz} {n:Nat} {I:In} {s:St} {a:Act}
end
section
variable {P:Program} {o:Oper}
end
section
variable {P:Program} {n:Nat} {ops:Array Oper} {l:List Oper} {k:Nat} {s:St} {fps:List FP} {K:St→Prop} {o:Oper}
variable {gs:List (Nat × SV)} (hg:Let n ops o s gs) (hd:dstB o n=true)
include hg hd
end
end Go.Ev

namespace Go.Ev
variable [Lay]
section
variable {P:Program} {n:Nat} {ops:Array Oper} {l:List Oper} {k:Nat} {s:St} {fps:List FP} {K:St→Prop} {o:Oper}
variable {gs:List (Nat × SV)} (hg:Let n ops o s gs) (hd:dstB o n=true)
include hg hd
end
end Go.Ev

namespace Go.Ev
variable [Lay]
section
variable {P:Program} {o:Oper}
end
section
variable {P:Program} {n:Nat} {ops:Array Oper} {l:List Oper} {k:Nat} {s:St} {fps:List FP} {K:St→Prop} {o:Oper}
variable {gs:List (Nat × SV)} (hg:Let n ops o s gs) (hd:dstB o n=true)
include hg hd
end

end Go.Ev

namespace Go.Ev
variable [Lay]
end Go.Ev

namespace Go.Ev
variable [Lay]
theorem OpS.trim {P:Program} {o:Oper} (st:Nat) (s0:St) {t e e0:TypeId} {it ie:TI} (ht:TyOk P t it) (hk:it.k=.sl e) (he:TyOk P e ie) {x hi:Operand} {r:Id} {k0 m0 hv d:Nat} {l:List (List D)}
    (h:o.op=.slice t x none (some hi) none) (hd:o.dst=some d) (hx:s0.eval x=.one (.ref r k0)) (hhi:Bnd s0 (some hi) l.length hv) (h2:hv≤l.length) :
    OpS P o st (preOf s0 x++preOp s0 (some hi)) [(r,(k0,m0,.row e0 ie.size l))] (.one (.ref r st)) [(r,some (st,st,.row e0 ie.size (l.take hv)))]:=by
  intro w M n U s a W next Q hS hHs hst hdn ⟨I,hW,hU,hr⟩ hn
  subst hW hU
  have hS1:∀ p∈preOf s0 x,s.slots p.1=p.2:=fun p hp=>hS p (List.mem_append.2 (.inl hp))
  have hS3:∀ p∈preOp s0 (some hi),s.slots p.1=p.2:=fun p hp=>hS p (List.mem_append.2 (.inr hp))
  have hex:=hr.eval x
  rw [eval_pre hS1,hx] at hex
  have hrI:I.H r=some (k0,m0,.row e0 ie.size l):=by rw [hr.hH]; exact hHs (r,_) (by simp)
  have hrow:Ow I.W I.Z (I.S r) (.sl true e0 ie.size l) (I.hd r):=(hr.objs r k0 m0 _ hrI).2.2
  cases hex with
  | one _ _ hc =>
    have hv0:a.eval x=I.hd r:=by
      cases hc with | ref _ _ _ _ _ h9=>exact h9 _ _ hrI
    have hrd:=hrow.read
    rw [D.erase_sl] at hrd
    obtain ⟨A,cap,hu,hcap,hmx⟩:=hrd.slen
    rw [List.length_map] at hu hcap
    have hhi':((some hi).map a.eval=none∧hv=l.length)∨∃ k,(some hi).map a.eval=some (.int k hv):=by
      rcases bnd_ok hr hS3 hhi with ⟨h9,_⟩ | ⟨y,k,h9,hy⟩
      · cases h9
      · cases h9; exact .inr ⟨k,by simp [hy]⟩
    have hrun:=run_slice_ok (P:=P) (ht.slice hk) he.sizeOf A l.length cap 0 hv none ((some hi).map a.eval) (Nat.zero_le _) h2 hcap (.inl ⟨rfl,rfl⟩) hhi' I.W
    have hA:(if cap=0 then A else A.map (·.add (0 * ie.size)))=A:=by
      split
      · rfl
      · cases A<;>simp [Addr.add]
    rw [hA,Nat.sub_zero,Nat.sub_zero] at hrun
    have hexec:(execOp a.eval o).run P I.W=.ok (.value (.slice A hv cap)) I.W:=by
      simp only [Option.map_some] at hrun
      simp [execOp,h,hv0,hu,hrun]
    let J:In:={ I with U:=fun m=>I.U m∨m=st,hd:=up I.hd r (.slice A hv cap),H:=fun q=>if q=r then some (st,st,.row e0 ie.size (l.take hv)) else I.H q }
    have hJr:J.H r=some (st,st,.row e0 ie.size (l.take hv)):=if_pos rfl
    have hd':J.hd r=.slice A hv cap:=up_same _ _ _
    have c0:Chg (fun q=>q=r) I J:=by
      refine { same:=fun q hq=>⟨if_neg hq,if_neg hq,rfl⟩,z:=fun _ h=>h,u:=fun _ h=>.inl h,ext:=.refl _ _,stamps:=?_,sets:=?_,disj:=?_,zone:=fun b hb=>⟨hr.zone b hb,.inl hb⟩ }
      · intro q k' m' o' hq ho
        subst hq
        rw [hJr] at ho
        simp only [Option.some.injEq,Prod.mk.injEq] at ho
        obtain ⟨rfl,rfl,_⟩:=ho
        exact ⟨hst,.inr rfl,.inr rfl,.inl hst⟩
      · intro q x' hq hx' b hb
        subst hq
        have h3:=hr.sets q _ hrI b hb
        exact ⟨h3.1,h3.2.1,.inl ⟨q,_,rfl,hrI,hb⟩⟩
      · intro q q' x' x'' hne hq hq'
        exact absurd (hq.trans hq'.symm) hne
    have hJ:RelI w M n J (s.obj r (some (st,st,.row e0 ie.size (l.take hv)))) a:=hr.chg c0 (by funext q; show (if q=r then _ else I.H q)=(if q=r then _ else s.H q); rw [hr.hH]) rfl fun q k' m' o' hq ho=>by
      subst hq
      rw [hJr] at ho
      simp only [Option.some.injEq,Prod.mk.injEq] at ho
      obtain ⟨_,_,rfl⟩:=ho
      show Ow I.W I.Z (I.S q) _ (J.hd q)
      rw [hd']
      rw [hu] at hrow
      exact hrow.take h2
    rw [Oper.wp,hexec]
    refine hn _ _ ⟨J,rfl,rfl,?_⟩
    rw [hd]
    refine RelI.put (s:=s.obj r (some (st,st,.row e0 ie.size (l.take hv)))) hJ (hdn d hd) ?_
    exact .one _ _ (.ref r st _ (.inr rfl) rfl fun m o' _=>hd'.symm)
section
variable {P:Program} {n:Nat} {ops:Array Oper} {l:List Oper} {k:Nat} {s:St} {fps:List FP} {K:St→Prop} {o:Oper} {gs:List (Nat × SV)} (hg:Let n ops o s gs) (hd:dstB o n=true)
include hg hd
theorem Seg.trim {t0 e e0:Nat} {it ie:TI} {x hi:Operand} {r:Id} {k0 m0 hv d:Nat} {els els':List (List D)} (ht:TyOk P t0 it) (hk:it.k=.sl e) (he:TyOk P e ie) (h:o.op=.slice t0 x none (some hi) none) (hd':o.dst=some d) (hx:s.eval x=.one (.ref r k0))
    (hH:s.H r=some (k0,m0,.row e0 ie.size els)) (hhi:Bnd s (some hi) els.length hv) (h2:hv≤els.length) (hels:els.take hv=els') {fp:FP} (hfp:(⟨(gs++(preOf s x++preOp s (some hi))).map (·.1),o.dst,[r],[r]⟩:FP)=fp)
    (t:Seg P n ops l (k+1) ((s.obj r (some (k,k,.row e0 ie.size els'))).put d (.one (.ref r k))) fps K):Seg P n ops (o::l) k s (fp::fps) K:=by
  subst hfp hels
  refine Seg.op hg hd (.trim k s ht hk he h hd' hx hhi h2 (m0:=m0) (e0:=e0)) (app_self (pre_self s x) (preOp_self s _)) (fun p hp=>by simp at hp; subst hp; exact hH) ?_
  rw [hd']; exact t
end
end Go.Ev

namespace Go.Ev
variable [Lay]

def szGo {α:Type} (w:α→Int):Int→List α→Int
  | l,[]=>l
  | l,x::xs=>if l - w x < 0 then -1 else szGo w (l - w x) xs
def szL {α:Type} (w:α→Int) (a:List α) (l:Int):Int:=if l - a.length < 0 then -1 else szGo w (l - a.length) a

theorem getD_mem {α:Type} [Inhabited α] {a:List α} {j:Nat} (h:j < a.length):a.getD j default∈a:=by
  rw [List.getD_eq_getElem?_getD,List.getElem?_eq_getElem h]; exact List.getElem_mem h
theorem drop_step {α:Type} [Inhabited α] {a:List α} {j:Nat} (h:j < a.length):a.drop j=a.getD j default::a.drop (j+1):=by
  rw [List.drop_eq_getElem_cons h,List.getD_eq_getElem?_getD,List.getElem?_eq_getElem h]; rfl
theorem szGo_step {α:Type} [Inhabited α] {w:α→Int} {a:List α} {j:Nat} {v:Int} (h:j < a.length) (h2:¬ v - w (a.getD j default) < 0):szGo w v (a.drop j)=szGo w (v - w (a.getD j default)) (a.drop (j+1)):=by
  rw [drop_step h,szGo,if_neg h2]
theorem szGo_fail {α:Type} [Inhabited α] {w:α→Int} {a:List α} {j:Nat} {v:Int} (h:j < a.length) (h2:v - w (a.getD j default) < 0):szGo w v (a.drop j)=-1:=by
  rw [drop_step h,szGo,if_pos h2]
theorem szGo_end {α:Type} {w:α→Int} {a:List α} {j:Nat} {v:Int} (h:a.length≤j):szGo w v (a.drop j)=v:=by
  rw [List.drop_eq_nil_of_le h,szGo]
theorem szGo_le {α:Type} {w:α→Int} {B:Int} (hB:0≤B):∀ {a:List α} {l:Int},(∀ x∈a,0≤w x)→l≤B→szGo w l a≤B
  | [],l,_,h=>h
  | x::xs,l,hw,h=>by
    rw [szGo]
    split
    · omega
    · exact szGo_le hB (fun y hy=>hw y (List.mem_cons_of_mem _ hy)) (by have:=hw x (by simp); omega)
theorem szL_le {α:Type} {w:α→Int} {B:Int} {a:List α} {l:Int} (hB:0≤B) (hw:∀ x∈a,0≤w x∧w x≤9223372036854775807) (h:l≤B):szL w a l≤B:=by
  unfold szL
  split
  · omega
  · exact szGo_le hB (fun x hx=>(hw x hx).1) (by omega)
theorem szGo_le' {α:Type} {w:α→Int}:∀ {a:List α} {l:Int},(∀ x∈a,0≤w x)→szGo w l a≤l∨szGo w l a < 0
  | [],l,_=>.inl (Int.le_refl _)
  | x::xs,l,hw=>by
    rw [szGo]
    split
    · exact .inr (by omega)
    · have:=hw x (by simp)
      rcases szGo_le' (w:=w) (a:=xs) (l:=l - w x) (fun y hy=>hw y (List.mem_cons_of_mem _ hy)) with h | h<;>omega
theorem szL_len {α:Type} {w:α→Int} {a:List α} {l:Int} (hw:∀ x∈a,0≤w x∧w x≤9223372036854775807) (h:¬ szL w a l < 0):(a.length:Int)≤l∧szL w a l≤l - a.length:=by
  unfold szL at h ⊢
  split at h<;>rename_i h1
  · omega
  · rw [if_neg h1]
    rcases szGo_le' (w:=w) (a:=a) (l:=l - a.length) (fun y hy=>(hw y hy).1) with h2 | h2<;>omega

def mkTo {α:Type} [Inhabited α] (f:Nat→α→α) (a:List α) (j:Nat):List α:=(List.range a.length).map fun i=>if i < j then f i (a.getD i default) else a.getD i default
def mkAll {α:Type} [Inhabited α] (f:Nat→α→α) (a:List α):List α:=mkTo f a a.length
theorem mkTo_len {α:Type} [Inhabited α] (f:Nat→α→α) (a:List α) (j:Nat):(mkTo f a j).length=a.length:=by simp [mkTo]
theorem mkAll_len {α:Type} [Inhabited α] (f:Nat→α→α) (a:List α):(mkAll f a).length=a.length:=mkTo_len _ _ _
omit [Lay] in
def idx {α:Type} (p:α→Bool) (l:List α):Int:=if l.findIdx p < l.length then (l.findIdx p:Int) else -1
theorem idx_found {α:Type} [Inhabited α] {p:α→Bool} {l:List α} {j:Nat} (hj:j < l.length) (h:allTo j (fun i=>!p (l.getD i default))=true) (hp:p (l.getD j default)=true):idx p l=(j:Int):=by
  have hg:∀ i (hi:i < l.length),l.getD i default=l[i]:=fun i hi=>by rw [List.getD_eq_getElem?_getD,List.getElem?_eq_getElem hi]; rfl
  have e:l.findIdx p=j:=(List.findIdx_eq hj).2 ⟨by rw [← hg j hj]; exact hp,fun i hi=>by
    have:=allTo_iff.1 h i hi
    rw [hg i (by omega)] at this
    simpa using this⟩
  unfold idx; rw [e,if_pos hj]
theorem idx_none {α:Type} [Inhabited α] {p:α→Bool} {l:List α} {j:Nat} (hj:l.length≤j) (h:allTo j (fun i=>!p (l.getD i default))=true):idx p l=-1:=by
  unfold idx
  rw [if_neg]
  rw [List.findIdx_lt_length]
  rintro ⟨x,hx,hp⟩
  obtain ⟨i,hi,rfl⟩:=List.getElem_of_mem hx
  have:=allTo_iff.1 h i (by omega)
  rw [List.getD_eq_getElem?_getD,List.getElem?_eq_getElem hi] at this
  simp [hp] at this
theorem idx_any {α:Type} (p:α→Bool) (l:List α):decide (idx p l≥0)=l.any p:=by
  have h0:l.findIdx p < l.length↔l.any p=true:=by rw [List.findIdx_lt_length,List.any_eq_true]
  unfold idx
  by_cases h:l.findIdx p < l.length
  · rw [if_pos h,h0.1 h]; simp
  · rw [if_neg h,Bool.eq_false_iff.2 fun e=>h (h0.2 e)]; rfl
theorem not_any {α:Type} (p:α→Bool) (l:List α):(!l.any fun x=>!p x)=l.all p:=by
  simp [List.all_eq_not_any_not]
theorem any_found {α:Type} [Inhabited α] {p:α→Bool} {l:List α} {j:Nat} (hj:j < l.length) (hp:p (l.getD j default)=true):l.any p=true :=
  List.any_eq_true.2 ⟨_,getD_mem hj,hp⟩
theorem any_none {α:Type} [Inhabited α] {p:α→Bool} {l:List α} {j:Nat} (hj:l.length≤j) (h:allTo j (fun i=>!p (l.getD i default))=true):l.any p=false:=by
  rw [← idx_any,idx_none hj h]; rfl
theorem all_none {α:Type} [Inhabited α] {p:α→Bool} {l:List α} {j:Nat} (hj:j < l.length) (hp:p (l.getD j default)=false):l.all p=false :=
  List.all_eq_false.2 ⟨_,getD_mem hj,by simp only [hp]; decide⟩
theorem all_done {α:Type} [Inhabited α] {p:α→Bool} {l:List α} {j:Nat} (hj:l.length≤j) (h:allTo j (fun i=>p (l.getD i default))=true):l.all p=true:=by
  rw [List.all_eq_true]
  intro x hx
  obtain ⟨i,hi,rfl⟩:=List.getElem_of_mem hx
  have:=allTo_iff.1 h i (by omega)
  rwa [List.getD_eq_getElem?_getD,List.getElem?_eq_getElem hi] at this

theorem getD_app1 {α:Type} {d:α} {a b:List α} {i:Nat} (h:i < a.length):(a++b).getD i d=a.getD i d:=by
  simp [List.getD_eq_getElem?_getD,List.getElem?_append_left h]
theorem getD_app2 {α:Type} {d:α} {a b:List α} {i:Nat}:(a++b).getD (a.length+i) d=b.getD i d:=by
  simp [List.getD_eq_getElem?_getD,List.getElem?_append_right]
theorem take_step {α β:Type} [Inhabited α] (f:α→β) {a:List α} {j:Nat} (h:j < a.length):(a.take j).map f++[f (a.getD j default)]=(a.take (j+1)).map f:=by
  rw [List.take_add_one,List.getElem?_eq_getElem h,List.map_append]
  simp [List.getD_eq_getElem?_getD,h]
theorem allTo_le {n m:Nat} {f:Nat→Bool} (h:n≤m) (hf:allTo m f=true):allTo n f=true :=
  allTo_iff.2 fun i hi=>allTo_iff.1 hf i (by omega)
theorem all_allTo {α:Type} [Inhabited α] (p:α→Bool) (l:List α):l.all p=allTo l.length fun i=>p (l.getD i default):=by
  cases h:allTo l.length fun i=>p (l.getD i default)
  · simp only [allTo,List.all_eq_false,List.mem_range] at h
    obtain ⟨i,hi,h⟩:=h
    exact all_none hi (by simpa using h)
  · exact all_done (Nat.le_refl _) h
end Go.Ev

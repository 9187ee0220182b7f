/- A symbolic executor over data by value, proved sound over any program: no conditions. -/
import Derived.Test.YthkdghnejfmhfaaGreatDoorE1
import Derived.Orders
import Derived.Tactics
import Derived.Deep.LoopGhost
set_option linter.all false
set_option linter.unnecessarySimpa false
set_option linter.unusedSectionVars false
set_option linter.unusedSimpArgs false
set_option linter.unusedVariables false
namespace Go.Ev
variable [Lay]
set_option linter.unusedSimpArgs false

inductive Els (s:St) (sz:Nat):C→List (List D)→List (Id × (Nat × Nat × O))→Prop where
  | d (e:Nat) (l:List (List D)):Els s sz (.d (.sl false e sz l)) l []
  | nil:Els s sz (.d (.v (.slice none 0 0))) [] []
  | view (r:Id) (k m e:Nat) (o:O) (l:List (List D)) (h:s.H r=some (k,m,o)):Els s sz (.view r m (.sl false e sz l)) l [(r,(k,m,o))]
  | ref (r:Id) (k m e:Nat) (l:List (List D)) (h:s.H r=some (k,m,.row e sz l)):Els s sz (.ref r k) l [(r,(k,m,.row e sz l))]
  | cut (r:Id) (k m e j:Nat) (l:List (List D)) (h:s.H r=some (k,m,.row e sz l)) (hj:j≤l.length):Els s sz (.cut r k j) (l.take j) [(r,(k,m,.row e sz l))]

def zoneOf (I:In):C→Nat→Prop
  | .view r _ _=>fun b=>I.Z b∨I.S r b
  | .ref r _=>fun b=>I.Z b∨I.S r b
  | .cut r _ _=>fun b=>I.Z b∨I.S r b
  | _=>I.Z

def eraseLL (l:List (List D)):List (List D):=l.map fun x=>x.map D.erase

section
variable {w:World} {M:Mz} {n:Nat} {I:In} {s:St} {a:Act}

theorem Ow.rdL {W:World} {Z S:Nat→Prop} {e sz:Nat} {l:List (List D)} {u:Value} (h:Ow W Z S (.sl true e sz l) u):Rd W (fun b=>Z b∨S b) (.sl false e sz (eraseLL l)) u:=by
  have:=h.read
  rwa [D.erase_sl] at this

theorem Els.ok (h:RelI w M n I s a) {s0:St} {sz:Nat} {c:C} {l:List (List D)} {pre:List (Id × (Nat × Nat × O))} (he:Els s0 sz c l pre) (hpre:∀ p∈pre,s.H p.1=some p.2) {u:Value} (hc:Cok I c u) :
    ∃ e,Rd I.W (zoneOf I c) (.sl false e sz (eraseLL l)) u:=by
  cases he with
  | d e l =>
    cases hc with
    | d _ _ hc=>exact ⟨e,by have:=hc.erase; rwa [D.erase_sl] at this⟩
  | nil =>
    cases hc with
    | d _ _ hc=>cases hc; exact ⟨0,.nil _ _ _ _⟩
  | view r k m e o l hH =>
    have hH:I.H r=some (k,m,o):=by rw [h.hH]; exact hpre (r,_) (by simp)
    cases hc with
    | view _ _ _ _ hu h1 hc=>exact ⟨e,by have:=(hc k o hH).erase; rwa [D.erase_sl] at this⟩
  | ref r k m e l hH =>
    have hH:I.H r=some (k,m,.row e sz l):=by rw [h.hH]; exact hpre (r,_) (by simp)
    cases hc with
    | ref _ _ _ hu h1 hc =>
      have ho:Ow I.W I.Z (I.S r) (.sl true e sz l) (I.hd r):=(h.objs r k m _ hH).2.2
      rw [← hc m _ hH] at ho
      exact ⟨e,ho.rdL⟩
  | cut r k m e j l hH hj =>
    have hH:I.H r=some (k,m,.row e sz l):=by rw [h.hH]; exact hpre (r,_) (by simp)
    cases hc with
    | cut _ _ _ _ hu h1 hc =>
      obtain ⟨A,N,cap,h2,h3,h4⟩:=hc m _ hH
      have ho:Ow I.W I.Z (I.S r) (.sl true e sz l) (I.hd r):=(h.objs r k m _ hH).2.2
      rw [h2] at ho
      rw [h3]
      exact ⟨e,(ho.take hj).rdL⟩

theorem eraseLL_len (l:List (List D)):(eraseLL l).length=l.length:=List.length_map _
theorem Rd.slen {W:World} {Z:Nat→Prop} {e sz:Nat} {l:List (List D)} {u:Value} (h:Rd W Z (.sl false e sz l) u):∃ A c,u=.slice A l.length c∧l.length≤c∧l.length≤maxLen:=by
  cases h with
  | sl _ _ _ A cap val hcap hmax _ _ _=>exact ⟨A,cap,rfl,hcap,hmax⟩

def C.elem (i:Nat) (el:List D):C→C
  | .d _=>.d (.pt false el)
  | .view r m _=>.view r m (.pt false el)
  | .ref r k=>.eptr r k i 0
  | _=>.bad

theorem Rd.elemAt {W:World} {Z:Nat→Prop} {e sz:Nat} {l:List (List D)} {A:Option Addr} {n c:Nat} (h0:0 < sz) (h:Rd W Z (.sl false e sz l) (.slice A n c)) {i:Nat} {el:List D} (hi:l[i]?=some el) :
    ∃ ad,A=some ad∧Rd W Z (.pt false el) (.pointer (some (ad.add (i * sz)))):=by
  cases h with
  | sl _ _ _ _ cap val hcap hmax hlen hcell hrd =>
    have hel:=hlen i el hi
    obtain ⟨ad,h1,h2,_⟩:=hcell i el 0 _ hi (List.getElem?_eq_getElem (by omega))
    have hb:(ad.add (i * sz)).block=ad.block:=by unfold Addr.add; split<;>rfl
    refine ⟨ad,h1,.pt _ _ (val i) (fun j x hj=>?_) (fun j x hj=>hrd i el j x hi hj)⟩
    obtain ⟨ad',h3,h4,h5⟩:=hcell i el j x hi hj
    rw [h1] at h3
    simp only [Option.some.injEq] at h3
    subst h3
    rw [hb,add_add]; exact ⟨h4,h5⟩

theorem Cok.elem (h:RelI w M n I s a) {s0:St} {sz:Nat} (h0:0 < sz) {c:C} {l:List (List D)} {pre:List (Id × (Nat × Nat × O))} (he:Els s0 sz c l pre) (hpre:∀ p∈pre,s.H p.1=some p.2) {u:Value} (hc:Cok I c u)
    (hcut:∀ r k j,c≠.cut r k j) {i:Nat} {el:List D} (hi:l[i]?=some el):∃ A cap,u=.slice (some A) l.length cap∧Cok I (c.elem i el) (.pointer (some (A.add (i * sz)))):=by
  cases he with
  | d e l =>
    cases hc with
    | d _ _ hc =>
      obtain ⟨A,cap,rfl,_⟩:=hc.slen
      obtain ⟨ad,rfl,h2⟩:=Rd.elemAt h0 hc hi
      exact ⟨ad,cap,rfl,.d _ _ h2⟩
  | nil=>simp at hi
  | view r k m e o l hH =>
    have hH:I.H r=some (k,m,o):=by rw [h.hH]; exact hpre (r,_) (by simp)
    cases hc with
    | view _ _ _ _ hu h1 hc =>
      obtain ⟨A,cap,rfl,_⟩:=(hc k o hH).slen
      obtain ⟨ad,rfl,h2⟩:=Rd.elemAt h0 (hc k o hH) hi
      refine ⟨ad,cap,rfl,.view r m _ _ hu rfl fun k' o' ho'=>?_⟩
      have:=hc k' o' ho'
      obtain ⟨ad',h3,h4⟩:=Rd.elemAt h0 this hi
      simp only [Option.some.injEq] at h3
      subst h3; exact h4
  | ref r k m e l hH =>
    have hH:I.H r=some (k,m,.row e sz l):=by rw [h.hH]; exact hpre (r,_) (by simp)
    cases hc with
    | ref _ _ _ hu h1 hc =>
      have ho:Ow I.W I.Z (I.S r) (.sl true e sz l) (I.hd r):=(h.objs r k m _ hH).2.2
      have hform:∃ g cap,I.hd r=.slice (some ⟨g,0,none⟩) l.length cap:=by
        generalize I.hd r=v at ho
        cases ho with
        | rd _ _ _ h=>cases h
        | sl _ _ _ _ _ cells T val hrow =>
          obtain ⟨g,cap,h2,_⟩:=ownsRow_cell hrow (by have:=(List.getElem?_eq_some_iff.1 hi).1; omega)
          exact ⟨g,cap,h2⟩
      obtain ⟨g,cap,hg⟩:=hform
      refine ⟨⟨g,0,none⟩,cap,(hc m _ hH).trans hg,?_⟩
      rw [at_plain]
      refine .eptr r k i 0 g _ hu fun m' e' sz' l' ho'=>?_
      rw [hH] at ho'
      simp only [Option.some.injEq,Prod.mk.injEq,O.row.injEq] at ho'
      obtain ⟨_,_,_,rfl,_⟩:=ho'
      exact ⟨_,_,hg,by omega⟩
  | cut r k m e j l hH hj=>exact absurd rfl (hcut r k j)

theorem Rd.cut {W:World} {Z:Nat→Prop} {e sz:Nat} {l:List (List D)} {A:Option Addr} {n c lo hi:Nat} (h:Rd W Z (.sl false e sz l) (.slice A n c)) (h1:lo≤hi) (h2:hi≤l.length) :
    Rd W Z (.sl false e sz ((l.take hi).drop lo)) (.slice (if c=lo then A else A.map (·.add (lo * sz))) (hi - lo) (c - lo)):=by
  cases h with
  | sl _ _ _ _ cap val hcap hmax hlen hcell hrd =>
    have hl:((l.take hi).drop lo).length=hi - lo:=by simp; omega
    have hget:∀ (j:Nat) (el:List D),((l.take hi).drop lo)[j]?=some el→lo+j < hi∧l[lo+j]?=some el:=by
      intro j el hj
      rw [List.getElem?_drop,List.getElem?_take] at hj
      split at hj
      · exact ⟨‹_›,hj⟩
      · cases hj
    rw [show hi - lo=((l.take hi).drop lo).length from hl.symm]
    refine .sl e sz _ _ _ (fun j i=>val (lo+j) i) (by rw [hl]; omega) (by rw [hl]; omega) (fun j el hj=>hlen _ el (hget j el hj).2) ?_ (fun j el i x hj hi=>hrd _ el i x (hget j el hj).2 hi)
    intro j el i x hj hi
    obtain ⟨h3,h4⟩:=hget j el hj
    obtain ⟨ad,h5,h6,h7⟩:=hcell _ el i x h4 hi
    have hne:¬ c=lo:=by omega
    refine ⟨ad.add (lo * sz),by rw [if_neg hne,h5]; rfl,?_,?_⟩
    · have hb:(ad.add (lo * sz)).block=ad.block:=by unfold Addr.add; split<;>rfl
      rw [hb]; exact h6
    · rw [add_add,← h7]; congr 2; rw [Nat.add_mul]; omega
end

section
variable {P:Program} {o:Oper}

theorem OpS.indexAddr (k:Nat) (s0:St) {t e:TypeId} {it ie:TI} (ht:TyOk P t it) (hk:it.k=.sl e) (he:TyOk P e ie) (h0:0 < ie.size) {x y:Operand} {c:C} {l:List (List D)} {pre:List (Id × (Nat × Nat × O))} {k1:IntKind} {i:Int} {el:List D}
    (h:o.op=.indexAddr t x y) (hx:s0.eval x=.one c) (hE:Els s0 ie.size c l pre) (hcut:∀ r k j,c≠.cut r k j) (hy:(s0.eval y).plain=some (.int k1 i)) (hi0:0≤i) (hel:l[i.toNat]?=some el) :
    OpS P o k (preOf s0 x++preOf s0 y) pre (.one (c.elem i.toNat el)) []:=by
  refine .quiet fun w M n I s a hS hH hr=>?_
  obtain ⟨e1,e2⟩:=preOfs_two hS
  have hex:=hr.eval x
  have hey:=hr.eval y
  rw [e1,hx] at hex
  rw [e2] at hey
  have g2:=SV.plain_ok hy hey
  cases hex with
  | one _ _ hc =>
    obtain ⟨A,cap,hu,hc2⟩:=Cok.elem hr h0 hE hH hc hcut hel
    refine ⟨_,.one _ _ hc2,?_⟩
    have hlt:i < l.length:=by have:=(List.getElem?_eq_some_iff.1 hel).1; omega
    simp [execOp,h,Instr.indexAt,g2,asIntOf,run_underlying (ht.slice hk),hu,hi0,hlt,he.sizeOf]

theorem OpS.indexStr (k:Nat) (s0:St) {t:TypeId} {it:TI} (ht:TyOk P t it) (hk:it.k=.str) {x y:Operand} {b:ByteArray} {k1:IntKind} {i:Int} {q:UInt8}
    (h:o.op=.index t x y) (hx:(s0.eval x).plain=some (.string b)) (hy:(s0.eval y).plain=some (.int k1 i)) (hi0:0≤i) (hq:b[i.toNat]?=some q) :
    OpS P o k (preOf s0 x++preOf s0 y) [] (.one (.d (.v (.int .u8 q.toNat)))) []:=by
  refine .quiet fun w M n I s a hS hH hr=>⟨_,.v I _ rfl,?_⟩
  obtain ⟨e1,e2⟩:=preOfs_two hS
  have hex:=hr.eval x
  have hey:=hr.eval y
  rw [e1] at hex
  rw [e2] at hey
  have g1:=SV.plain_ok hx hex
  have g2:=SV.plain_ok hy hey
  have hu:P.underlying t=some .string:=by have:=ht.und; rw [hk] at this; exact this
  simp [execOp,h,Instr.index,g1,g2,asIntOf,run_underlying hu,hi0,hq]

theorem OpS.len (k:Nat) (s0:St) {t e:TypeId} {it:TI} (ht:TyOk P t it) (hk:it.k=.sl e) {sz:Nat} {x:Operand} {c:C} {l:List (List D)} {pre:List (Id × (Nat × Nat × O))}
    (h:o.op=.call { callee:=.builtin .len,args:=#[x],argTypes:=#[t] }) (hx:s0.eval x=.one c) (hE:Els s0 sz c l pre):OpS P o k (preOf s0 x) pre (.one (.d (.v (.int .i64 l.length)))) []:=by
  refine .quiet fun w M n I s a hS hH hr=>⟨_,.v I _ rfl,?_⟩
  have hex:=hr.eval x
  rw [eval_pre hS,hx] at hex
  cases hex with
  | one _ _ hc =>
    obtain ⟨e',hrd⟩:=hE.ok hr hH hc
    obtain ⟨A,cap,hu,_⟩:=hrd.slen
    rw [eraseLL_len] at hu
    simp [execOp,h,resolve,invoke,builtin,Builtin.len_,run_underlying (ht.slice hk),hu,goInt]

theorem OpS.lenStr (k:Nat) (s0:St) {t:TypeId} {it:TI} (ht:TyOk P t it) (hk:it.k=.str) {x:Operand} {b:ByteArray}
    (h:o.op=.call { callee:=.builtin .len,args:=#[x],argTypes:=#[t] }) (hx:(s0.eval x).plain=some (.string b)):OpS P o k (preOf s0 x) [] (.one (.d (.v (.int .i64 b.size)))) []:=by
  refine .quiet fun w M n I s a hS hH hr=>⟨_,.v I _ rfl,?_⟩
  have hex:=hr.eval x
  rw [eval_pre hS] at hex
  have g1:=SV.plain_ok hx hex
  have hu:P.underlying t=some .string:=by have:=ht.und; rw [hk] at this; exact this
  simp [execOp,h,resolve,invoke,builtin,Builtin.len_,run_underlying hu,g1,goInt]

theorem OpS.minmax (k:Nat) (s0:St) {b:Builtin} {ts:Array TypeId} {x y:Operand} {k1:IntKind} {i j:Int} (hb:b=.min∨b=.max)
    (h:o.op=.call { callee:=.builtin b,args:=#[x,y],argTypes:=ts }) (hx:(s0.eval x).plain=some (.int k1 i)) (hy:(s0.eval y).plain=some (.int k1 j)) :
    OpS P o k (preOf s0 x++preOf s0 y) [] (.one (.d (.v (.int k1 (if b matches .min then (if j < i then j else i) else (if j > i then j else i)))))) []:=by
  refine .quiet fun w M n I s a hS hH hr=>⟨_,.v I _ rfl,?_⟩
  obtain ⟨e1,e2⟩:=preOfs_two hS
  have hex:=hr.eval x
  have hey:=hr.eval y
  rw [e1] at hex
  rw [e2] at hey
  have g1:=SV.plain_ok hx hex
  have g2:=SV.plain_ok hy hey
  rcases hb with rfl | rfl<;>simp [execOp,h,resolve,invoke,builtin,Builtin.min_,Builtin.max_,Builtin.min2,Builtin.max2,g1,g2]
end
end Go.Ev

namespace Go.Ev
variable [Lay]
set_option linter.unusedSimpArgs false

theorem Rd.retype {W:World} {Z:Nat→Prop} {e sz:Nat} {l:List (List D)} {u:Value} (h:Rd W Z (.sl false e sz l) u) (e':Nat):Rd W Z (.sl false e' sz l) u:=by
  cases h with
  | sl _ _ _ A cap val a1 a2 a3 a4 a5=>exact .sl _ _ _ A cap val a1 a2 a3 a4 a5

def Bnd (s:St) (x:Option Operand) (dflt v:Nat):Prop :=
  match x with
  | none=>v=dflt
  | some x=>∃ k,(s.eval x).plain=some (.int k v)
def preOp (s:St):Option Operand→List (Nat × SV)
  | none=>[]
  | some x=>preOf s x

def C.cutted (e sz:Nat) (l:List (List D)) (lo:Option Operand) (lv hv m:Nat):C→C
  | .ref r k=>if lo.isNone then .cut r k hv else .view r m (.sl false e sz (eraseLL ((l.take hv).drop lv)))
  | .view r m' _=>.view r m' (.sl false e sz ((l.take hv).drop lv))
  | .d _=>.d (.sl false e sz ((l.take hv).drop lv))
  | _=>.bad

theorem eraseLL_cut (l:List (List D)) (lo hi:Nat):eraseLL ((l.take hi).drop lo)=((eraseLL l).take hi).drop lo:=by simp [eraseLL,List.map_drop,List.map_take]

theorem bnd_ok {w:World} {M:Mz} {n:Nat} {I:In} {s s0:St} {a:Act} (h:RelI w M n I s a) {x:Option Operand} {dflt v:Nat} (hS:∀ p∈preOp s0 x,s.slots p.1=p.2) (hb:Bnd s0 x dflt v) :
    (x=none∧v=dflt)∨∃ y k,x=some y∧a.eval y=.int k v:=by
  cases x with
  | none=>exact .inl ⟨rfl,hb⟩
  | some y =>
    obtain ⟨k,hk⟩:=hb
    have hey:=h.eval y
    rw [eval_pre hS] at hey
    exact .inr ⟨y,k,rfl,SV.plain_ok hk hey⟩

theorem run_sliceBound {P:Program} (k:IntKind) (v y:Nat) (code:BoundsCode) (h:v≤y) (w:World):(Instr.sliceBound (.int k v) y code).run P w=.ok v w:=by
  have h1:(0:Int)≤(v:Int)∧(v:Int)≤(y:Int):=⟨by omega,by omega⟩
  simp only [Instr.sliceBound,asIntOf,pure_bind,h1,and_self,if_true,Sem.run_pure,Int.toNat_natCast]

theorem run_slice_ok {P:Program} {t e:TypeId} {size:Nat} (hu:P.underlying t=some (.slice e)) (hs:∀ w,(sizeOf e).run P w=.ok size w) (A:Option Addr) (n c lv hv:Nat) (lo hi:Option Value) (h1:lv≤hv) (h2:hv≤n) (h3:n≤c)
    (hlo:(lo=none∧lv=0)∨∃ k,lo=some (.int k lv)) (hhi:(hi=none∧hv=n)∨∃ k,hi=some (.int k hv)) (w:World) :
    (Instr.sliceAt t (.slice A n c) lo hi none).run P w=.ok (.slice (if c=lv then A else A.map (·.add (lv * size))) (hv - lv) (c - lv)) w:=by
  have a1:=fun k code w=>run_sliceBound (P:=P) k lv hv code h1 w
  have a2:=fun k code w=>run_sliceBound (P:=P) k hv c code (Nat.le_trans h2 h3) w
  rcases hlo with ⟨rfl,rfl⟩ | ⟨k,rfl⟩<;>rcases hhi with ⟨rfl,rfl⟩ | ⟨k',rfl⟩ <;>
    simp [Instr.sliceAt,Instr.slice,run_underlying hu,Instr.sliceBounds,hs,a1,a2]

section
variable {P:Program} {o:Oper}

theorem OpS.slice (k:Nat) (s0:St) {t e:TypeId} {it ie:TI} (ht:TyOk P t it) (hk:it.k=.sl e) (he:TyOk P e ie) {x:Operand} {lo hi:Option Operand} {lv hv m:Nat} {c:C} {l:List (List D)} {pre:List (Id × (Nat × Nat × O))}
    (h:o.op=.slice t x lo hi none) (hx:s0.eval x=.one c) (hE:Els s0 ie.size c l pre) (hcut:∀ r k j,c≠.cut r k j) (hm:∀ r k',c=.ref r k'→∃ o',(r,(k',m,o'))∈pre) (hlo:Bnd s0 lo 0 lv) (hhi:Bnd s0 hi l.length hv)
    (h1:lv≤hv) (h2:hv≤l.length):OpS P o k (preOf s0 x++(preOp s0 lo++preOp s0 hi)) pre (.one (c.cutted e ie.size l lo lv hv m)) []:=by
  refine .quiet fun w M n I s a hS hH hr=>?_
  have hS1:∀ p∈preOf s0 x,s.slots p.1=p.2:=fun p hp=>hS p (List.mem_append.2 (.inl hp))
  have hS2:∀ p∈preOp s0 lo,s.slots p.1=p.2:=fun p hp=>hS p (List.mem_append.2 (.inr (List.mem_append.2 (.inl hp))))
  have hS3:∀ p∈preOp s0 hi,s.slots p.1=p.2:=fun p hp=>hS p (List.mem_append.2 (.inr (List.mem_append.2 (.inr hp))))
  have hex:=hr.eval x
  rw [eval_pre hS1,hx] at hex
  cases hex with
  | one _ _ hc =>
    obtain ⟨e',hrd⟩:=hE.ok hr hH hc
    obtain ⟨A,cap,hu,hcap,hmx⟩:=hrd.slen
    rw [eraseLL_len] at hu hcap
    have hlo':(lo.map a.eval=none∧lv=0)∨∃ k,lo.map a.eval=some (.int k lv):=by
      rcases bnd_ok hr hS2 hlo with ⟨rfl,rfl⟩ | ⟨y,k,rfl,hy⟩
      · exact .inl ⟨rfl,rfl⟩
      · exact .inr ⟨k,by simp [hy]⟩
    have hhi':(hi.map a.eval=none∧hv=l.length)∨∃ k,hi.map a.eval=some (.int k hv):=by
      rcases bnd_ok hr hS3 hhi with ⟨rfl,rfl⟩ | ⟨y,k,rfl,hy⟩
      · exact .inl ⟨rfl,rfl⟩
      · exact .inr ⟨k,by simp [hy]⟩
    have hrun:=run_slice_ok (P:=P) (ht.slice hk) he.sizeOf A l.length cap lv hv (lo.map a.eval) (hi.map a.eval) h1 h2 hcap
      hlo' hhi' I.W
    have hexec:(execOp a.eval o).run P I.W=.ok (.value (.slice (if cap=lv then A else A.map (·.add (lv * ie.size))) (hv - lv) (cap - lv))) I.W:=by
      simp [execOp,h,hu,hrun]
    refine ⟨_,?_,hexec⟩
    rw [hu] at hrd
    have hcutR:=Rd.cut (e:=e') hrd h1 (by rw [eraseLL_len]; exact h2)
    rw [← eraseLL_cut] at hcutR
    refine .one _ _ ?_
    cases hE with
    | d e0 l =>
      cases hc with
      | d _ _ hc =>
        rw [hu] at hc
        exact .d _ _ ((Rd.cut hc h1 h2).retype _)
    | nil =>
      have hl0:((([]:List (List D)).take hv).drop lv)=[]:=by simp
      simp only [C.cutted,hl0]
      rw [hl0] at hcutR
      exact .d _ _ (Rd.retype (e:=e') (by simpa [eraseLL,zoneOf] using hcutR) _)
    | view r k' m' e0 o' l hH' =>
      have hHI:I.H r=some (k',m',o'):=by rw [hr.hH]; exact hH (r,_) (by simp)
      cases hc with
      | view _ _ _ _ huu h1' hc =>
        refine .view r m' _ _ huu rfl fun k2 o2 ho2=>?_
        have h3:=hc k2 o2 ho2
        rw [hu] at h3
        exact (Rd.cut h3 h1 h2).retype _
    | ref r k' m' e0 l hH' =>
      have hHI:I.H r=some (k',m',.row e0 ie.size l):=by rw [hr.hH]; exact hH (r,_) (by simp)
      obtain ⟨o',ho'⟩:=hm r k' rfl
      have hm':m=m':=by
        have:=hH _ ho'
        have h2:=hH (r,(k',m',.row e0 ie.size l)) (by simp)
        simp only at this h2
        rw [this] at h2
        simp only [Option.some.injEq,Prod.mk.injEq] at h2
        exact h2.2.1
      subst hm'
      have hobj:=hr.objs r k' m _ hHI
      cases hc with
      | ref _ _ _ huu h1' hc =>
        cases lo with
        | none =>
          have hlv:lv=0:=hlo
          subst hlv
          simp only [C.cutted,Option.isNone_none,if_true]
          refine .cut r k' hv _ huu rfl fun m2 o2 ho2=>⟨A,l.length,cap,?_,?_,h2⟩
          · rw [← hc m2 o2 ho2,hu]
          · cases A<;>simp [Addr.add]
        | some y =>
          simp only [C.cutted,Option.isNone_some,Bool.false_eq_true,if_false]
          refine .view r m _ _ hobj.2.1 rfl fun k2 o2 ho2=>?_
          exact hcutR.retype _
    | cut r k' m' e0 j l hH' hj=>exact absurd rfl (hcut r k' j)

theorem firstsC_ok {w:World} {M:Mz} {n:Nat} {I:In} {s s0:St} {a:Act} (hr:RelI w M n I s a):∀ (l:List Operand) (out:List (Bool × List C)),(∀ p∈preOfs s0 l,s.slots p.1=p.2)→firstsC s0 l=some out →
    l.length=out.length∧∃ fv:Nat→Nat→Value,(∀ (i:Nat) (x:Bool × List C),out[i]?=some x→(l.map a.eval).getD i undef=mkV x.1 x.2.length (fv i)∧(x.1=false→x.2.length=1)) ∧
      ∀ (i:Nat) (x:Bool × List C) (j:Nat) (c:C),out[i]?=some x→x.2[j]?=some c→Cok I c (fv i j)
  | [],out,_,h=>by
    simp only [firstsC,Option.some.injEq] at h
    subst h
    exact ⟨rfl,fun _ _=>undef,by simp,by simp⟩
  | x::l,out,hS,h=>by
    have hS1:∀ p∈preOf s0 x,s.slots p.1=p.2:=fun p hp=>hS p (by simp [preOfs]; exact .inl hp)
    have hS2:∀ p∈preOfs s0 l,s.slots p.1=p.2:=fun p hp=>hS p (by simp only [preOfs,List.flatMap_cons,List.mem_append]; exact .inr hp)
    have hex:=hr.eval x
    rw [eval_pre hS1] at hex
    simp only [firstsC] at h
    cases hq:firstsC s0 l with
    | none=>rw [hq] at h; split at h<;>simp_all
    | some r =>
      rw [hq] at h
      obtain ⟨h1,fv,h2,h3⟩:=firstsC_ok hr l r hS2 hq
      cases hs:s0.eval x with
      | one c =>
        rw [hs] at h hex
        simp only [Option.some.injEq] at h
        subst h
        cases hex with
        | one _ _ hc =>
          refine ⟨by simp [h1],fun i j=>match i with | 0=>a.eval x | i+1=>fv i j,?_,?_⟩
          · intro i y hy
            cases i with
            | zero=>simp at hy; subst hy; exact ⟨rfl,fun _=>rfl⟩
            | succ i=>exact h2 i y (by simpa using hy)
          · intro i y j c' hy hj
            cases i with
            | zero =>
              simp at hy; subst hy
              cases j with
              | zero=>simp at hj; subst hj; exact hc
              | succ j=>simp at hj
            | succ i=>exact h3 i y j c' (by simpa using hy) hj
      | agg cs =>
        rw [hs] at h hex
        simp only [Option.some.injEq] at h
        subst h
        generalize hv:a.eval x=v at hex
        cases hex with
        | agg _ us hsz hc =>
          refine ⟨by simp [h1],fun i j=>match i with | 0=>us.getD j undef | i+1=>fv i j,?_,?_⟩
          · intro i y hy
            cases i with
            | zero =>
              simp at hy; subst hy
              refine ⟨?_,fun h=>by cases h⟩
              simp only [List.map_cons,List.getD_cons_zero,hv,mkV,if_true,Value.agg.injEq]
              refine Array.ext (by simp [hsz]) fun j h4 h5=>?_
              simp [h4]
            | succ i=>exact h2 i y (by simpa using hy)
          · intro i y j c' hy hj
            cases i with
            | zero=>simp at hy; subst hy; exact hc j c' hj
            | succ i=>exact h3 i y j c' (by simpa using hy) hj
      | tup=>rw [hs] at h; simp at h
      | bad=>rw [hs] at h; simp at h

theorem capsC_ok {w:World} {M:Mz} {n:Nat} {I:In} {s s0:St} {a:Act} (hr:RelI w M n I s a):∀ (l:List Operand) (out:List C),(∀ p∈preOfs s0 l,s.slots p.1=p.2)→capsC s0 l=some out →
    l.length=out.length∧∀ (i:Nat) (c:C),out[i]?=some c→Cok I c ((l.map a.eval).getD i undef)
  | [],out,_,h=>by
    simp only [capsC,Option.some.injEq] at h
    subst h
    simp
  | x::l,out,hS,h=>by
    have hS1:∀ p∈preOf s0 x,s.slots p.1=p.2:=fun p hp=>hS p (by simp [preOfs]; exact .inl hp)
    have hS2:∀ p∈preOfs s0 l,s.slots p.1=p.2:=fun p hp=>hS p (by simp only [preOfs,List.flatMap_cons,List.mem_append]; exact .inr hp)
    have hex:=hr.eval x
    rw [eval_pre hS1] at hex
    simp only [capsC] at h
    cases hq:capsC s0 l with
    | none=>rw [hq] at h; split at h<;>simp_all
    | some r =>
      rw [hq] at h
      obtain ⟨h1,h2⟩:=capsC_ok hr l r hS2 hq
      cases hs:s0.eval x with
      | one c =>
        rw [hs] at h hex
        simp only [Option.some.injEq] at h
        subst h
        cases hex with
        | one _ _ hc =>
          refine ⟨by simp [h1],fun i c' hi=>?_⟩
          cases i with
          | zero=>simp at hi; subst hi; simpa using hc
          | succ i=>simpa using h2 i c' (by simpa using hi)
      | _=>rw [hs] at h; simp at h

theorem preOfs_app {s s0:St} {l l':List Operand} (h:∀ p∈preOfs s0 l++preOfs s0 l',s.slots p.1=p.2):(∀ p∈preOfs s0 l,s.slots p.1=p.2)∧(∀ p∈preOfs s0 l',s.slots p.1=p.2) :=
  ⟨fun p hp=>h p (List.mem_append.2 (.inl hp)),fun p hp=>h p (List.mem_append.2 (.inr hp))⟩

theorem OpS.makeFunc (k:Nat) (s0:St) {f:FuncId} {first caps:List Operand} {fc:List (Bool × List C)} {cc:List C} (h:o.op=.makeFunc (.func f) first.toArray caps.toArray) (hf:firstsC s0 first=some fc) (hc:capsC s0 caps=some cc) :
    OpS P o k (preOfs s0 first++preOfs s0 caps) [] (.one (.clo f fc cc)) []:=by
  refine .quiet fun w M n I s a hS hH hr=>?_
  obtain ⟨hS1,hS2⟩:=preOfs_app hS
  obtain ⟨h1,fv,h2,h3⟩:=firstsC_ok hr first fc hS1 hf
  obtain ⟨h4,h5⟩:=capsC_ok hr caps cc hS2 hc
  refine ⟨.func (.func f) (first.map a.eval).toArray (caps.map a.eval).toArray,.one _ _ (.clo f fc cc _ _ (by simpa using h4) fv (by simpa using h1) (fun i x hx=>by simpa using h2 i x hx) h3 (fun i c hi=>by simpa using h5 i c hi)),?_⟩
  simp [execOp,h,Instr.makeFunc]
end
end Go.Ev

namespace Go.Ev
variable [Lay]

abbrev Objs:=List (Id × (Nat × Nat × O))

def unpack0 (id:Id) (k m:Nat):D→C × Objs
  | .sl true e sz l=>(.ref id k,[(id,(k,m,.row e sz l))])
  | .pt true _=>(.bad,[])
  | x=>(.d x,[])
def unpackL (id:Id) (st:Nat):Nat→List D→List C × Objs
  | _,[]=>([],[])
  | i,d::l=>((unpack0 (id++[i]) st st d).1::(unpackL id st (i+1) l).1,(unpack0 (id++[i]) st st d).2++(unpackL id st (i+1) l).2)
def unpack (id:Id) (k m st:Nat):D→C × Objs
  | .pt true ds=>(.ptr id k 0,(id,(k,m,.box (unpackL id st 0 ds).1))::(unpackL id st 0 ds).2)
  | x=>unpack0 id k m x

def Agrees (J:In) (objs:Objs) (hd:Id→Value) (S:Id→Nat→Prop):Prop:=∀ q x,(q,x)∈objs→J.H q=some x∧J.hd q=hd q∧J.S q=S q

theorem Agrees.left {J:In} {a b:Objs} {hd:Id→Value} {S:Id→Nat→Prop} (h:Agrees J (a++b) hd S):Agrees J a hd S:=fun q x hq=>h q x (List.mem_append.2 (.inl hq))
theorem Agrees.right {J:In} {a b:Objs} {hd:Id→Value} {S:Id→Nat→Prop} (h:Agrees J (a++b) hd S):Agrees J b hd S:=fun q x hq=>h q x (List.mem_append.2 (.inr hq))

theorem unpack0_ids (id:Id) (k m:Nat) (d:D):∀ q x,(q,x)∈(unpack0 id k m d).2→q=id:=by
  intro q x h
  unfold unpack0 at h
  split at h<;>simp at h
  exact h.1
theorem unpackL_ids (id:Id) (st:Nat):∀ (l:List D) (i:Nat) q x,(q,x)∈(unpackL id st i l).2→∃ j,i≤j∧q=id++[j]
  | [],i,q,x,h=>by simp [unpackL] at h
  | d::l,i,q,x,h=>by
    simp only [unpackL,List.mem_append] at h
    rcases h with h | h
    · exact ⟨i,Nat.le_refl _,unpack0_ids _ _ _ _ q x h⟩
    · obtain ⟨j,h1,h2⟩:=unpackL_ids id st l (i+1) q x h
      exact ⟨j,by omega,h2⟩

theorem unpack0_ok {W:World} {Z S:Nat→Prop} {d:D} {u:Value} (h:Ow W Z S d u) (id:Id) (k m:Nat) (J:In) (hW:J.W=W) (hZ:∀ b,Z b→J.Z b) (hk:J.U k) {hd:Id→Value} {SS:Id→Nat→Prop}
    (ha:Agrees J (unpack0 id k m d).2 hd SS) (h1:hd id=u) (h2:SS id=S):Cok J (unpack0 id k m d).1 u∧∀ q x,(q,x)∈(unpack0 id k m d).2→Ook J q x.2.2:=by
  subst hW
  cases d with
  | sl b e sz l =>
    cases b with
    | true =>
      obtain ⟨h3,h4,h5⟩:=ha id (k,m,.row e sz l) (by simp [unpack0])
      refine ⟨.ref id k u hk h.one fun m' o' _=>(h4.trans h1).symm,fun q x hq=>?_⟩
      simp only [unpack0,List.mem_singleton,Prod.mk.injEq] at hq
      obtain ⟨rfl,rfl⟩:=hq
      show Ow J.W J.Z (J.S q) _ (J.hd q)
      rw [h5,h4,h2,h1]
      exact h.move (fun b hb=>⟨hZ b hb,rfl⟩) fun b _=>rfl
    | false =>
      refine ⟨?_,by simp [unpack0]⟩
      cases h with | rd _ _ _ h=>exact .d _ _ (h.mono hZ)
  | pt b l =>
    cases b with
    | true=>exact ⟨.bad u h.one,by simp [unpack0]⟩
    | false =>
      refine ⟨?_,by simp [unpack0]⟩
      cases h with | rd _ _ _ h=>exact .d _ _ (h.mono hZ)
  | v y =>
    refine ⟨?_,by simp [unpack0]⟩
    cases h with | rd _ _ _ h=>exact .d _ _ (h.mono hZ)
  | fn f a b =>
    refine ⟨?_,by simp [unpack0]⟩
    cases h with | rd _ _ _ h=>exact .d _ _ (h.mono hZ)
  | any x =>
    refine ⟨?_,by simp [unpack0]⟩
    cases h with | rd _ _ _ h=>exact .d _ _ (h.mono hZ)

theorem unpackL_len (id:Id) (st:Nat):∀ (l:List D) (i:Nat),(unpackL id st i l).1.length=l.length
  | [],_=>rfl
  | d::l,i=>by simp [unpackL,unpackL_len id st l (i+1)]

theorem unpackL_ok {W:World} {Z:Nat→Prop} (id:Id) (st:Nat) (J:In) (hW:J.W=W) (hZ:∀ b,Z b→J.Z b) (hk:J.U st) {hd:Id→Value} {SS:Id→Nat→Prop}:∀ (l:List D) (i:Nat) (us:Nat→Value) (T:Nat→Nat→Prop),
    (∀ (j:Nat) (d:D),l[j]?=some d→Ow W Z (T (i+j)) d (us (i+j)))→Agrees J (unpackL id st i l).2 hd SS→(∀ j,hd (id++[j])=us j)→(∀ j,SS (id++[j])=T j) →
    (∀ (j:Nat) (c:C),(unpackL id st i l).1[j]?=some c→Cok J c (us (i+j)))∧∀ q x,(q,x)∈(unpackL id st i l).2→Ook J q x.2.2
  | [],i,us,T,_,_,_,_=>by simp [unpackL]
  | d::l,i,us,T,h,ha,h1,h2=>by
    simp only [unpackL] at ha
    obtain ⟨g1,g2⟩:=unpack0_ok (h 0 d rfl) (id++[i]) st st J hW hZ hk ha.left (h1 i) (h2 i)
    obtain ⟨g3,g4⟩:=unpackL_ok id st J hW hZ hk l (i+1) us T (fun j d' hj=>by have:=h (j+1) d' (by simpa using hj); rw [show i+1+j=i+(j+1) by omega]; exact this) ha.right h1 h2
    refine ⟨fun j c hj=>?_,fun q x hq=>?_⟩
    · simp only [unpackL] at hj
      cases j with
      | zero=>simp at hj; subst hj; exact g1
      | succ j=>have:=g3 j c (by simpa using hj); rw [show i+(j+1)=i+1+j by omega]; exact this
    · simp only [unpackL,List.mem_append] at hq
      rcases hq with hq | hq
      · exact g2 q x hq
      · exact g4 q x hq

theorem unpack_ok {W:World} {Z S:Nat→Prop} {d:D} {u:Value} (h:Ow W Z S d u) (id:Id) (k m st:Nat) :
    ∃ (hd:Id→Value) (SS:Id→Nat→Prop),hd id=u∧(∀ q b,SS q b→S b)∧(∀ q q' b,q≠q'→SS q b→¬ SS q' b) ∧
      ∀ J:In,J.W=W→(∀ b,Z b→J.Z b)→J.U k→J.U st→Agrees J (unpack id k m st d).2 hd SS→Cok J (unpack id k m st d).1 u∧∀ q x,(q,x)∈(unpack id k m st d).2→Ook J q x.2.2:=by
  have key:unpack id k m st d=unpack0 id k m d→∃ (hd:Id→Value) (SS:Id→Nat→Prop),hd id=u∧(∀ q b,SS q b→S b)∧(∀ q q' b,q≠q'→SS q b→¬ SS q' b) ∧
      ∀ J:In,J.W=W→(∀ b,Z b→J.Z b)→J.U k→J.U st→Agrees J (unpack id k m st d).2 hd SS→Cok J (unpack id k m st d).1 u∧∀ q x,(q,x)∈(unpack id k m st d).2→Ook J q x.2.2:=by
    intro e
    rw [e]
    refine ⟨fun _=>u,fun q b=>q=id∧S b,rfl,fun q b hb=>hb.2,fun q q' b hne hb hb'=>hne (hb.1.trans hb'.1.symm),fun J hW hZ hk _ ha=>unpack0_ok h id k m J hW hZ hk ha rfl ?_⟩
    funext b; simp
  cases d with
  | pt b ds =>
    cases b with
    | false=>exact key rfl
    | true =>
      cases h with
      | rd _ _ _ h=>cases h
      | pt _ _ g us t T hblk hs hg hT hdis how =>
        refine ⟨fun q=>if q=id then .pointer (some ⟨g,0,none⟩) else us.getD (q.getLast?.getD 0) undef,fun q b=>(q=id∧b=g)∨(∃ j,q=id++[j]∧T j b),by simp,?_,?_,?_⟩
        · rintro q b (⟨rfl,rfl⟩ | ⟨j,rfl,hb⟩)
          · exact hg
          · exact (hT j b hb).1
        · rintro q q' b hne (⟨rfl,rfl⟩ | ⟨j,rfl,hb⟩) (⟨rfl,h2⟩ | ⟨j',rfl,hb'⟩)
          · exact hne rfl
          · exact (hT j' _ hb').2 rfl
          · exact (hT j b hb).2 h2
          · exact hne (by rw [hdis j j' b hb hb'])
        · intro J hW hZ hk hst ha
          subst hW
          have hne:∀ j,id++[j]≠id:=fun j e=>by have:=congrArg List.length e; simp at this
          have ha2:Agrees J (unpackL id st 0 ds).2 (fun q=>if q=id then .pointer (some ⟨g,0,none⟩) else us.getD (q.getLast?.getD 0) undef) (fun q b=>(q=id∧b=g)∨(∃ j,q=id++[j]∧T j b)) :=
            fun q x hq=>ha q x (List.mem_cons_of_mem _ hq)
          obtain ⟨h3,h4,h5⟩:=ha id (k,m,.box (unpackL id st 0 ds).1) (by simp [unpack])
          simp only [if_true] at h4
          obtain ⟨g1,g2⟩:=unpackL_ok (W:=J.W) (Z:=Z) id st J rfl hZ hst ds 0 (fun j=>us.getD j undef) T (fun j d' hj=>by rw [Nat.zero_add]; exact how j d' hj) ha2
            (fun j=>by rw [if_neg (hne j)]; simp) (fun j=>by
              funext b
              simp only [eq_iff_iff]
              constructor
              · rintro (⟨h6,_⟩ | ⟨j',h6,h7⟩)
                · exact absurd h6 (hne j)
                · have:j=j':=by simpa using h6
                  rw [this]; exact h7
              · intro h6; exact .inr ⟨j,rfl,h6⟩)
          refine ⟨.ptr id k 0 g hk fun _ _ _=>h4,fun q x hq=>?_⟩
          simp only [unpack,List.mem_cons,Prod.mk.injEq] at hq
          rcases hq with ⟨rfl,rfl⟩ | hq
          · refine ⟨g,us,t,h4,by rw [h5]; exact .inl ⟨rfl,rfl⟩,hblk,by rw [unpackL_len]; exact hs,fun i c hi=>?_⟩
            have:=g1 i c hi
            rwa [Nat.zero_add] at this
          · exact g2 q x hq
  | _=>exact key rfl
end Go.Ev

namespace Go.Ev
variable [Lay]

structure NL where
  id:Id
  k:Nat
  m:Nat
  d:D

def NL.objs (st:Nat) (x:NL):Objs:=(unpack x.id x.k x.m st x.d).2
def NL.cell (st:Nat) (x:NL):C:=(unpack x.id x.k x.m st x.d).1
def objsOf (st:Nat) (l:List NL):Objs:=l.flatMap (NL.objs st)

theorem hold_all {W:World} {Z:Nat→Prop} (st:Nat):∀ (l:List NL) (u:Nat→Value) (S:Nat→Nat→Prop),(∀ (t:Nat) (x:NL),l[t]?=some x→Ow W Z (S t) x.d (u t))→(idsOf (objsOf st l)).Nodup →
    (∀ t t' b,t≠t'→S t b→¬ S t' b) →
    ∃ (hd:Id→Value) (SS:Id→Nat→Prop),(∀ (t:Nat) (x:NL),l[t]?=some x→∀ y,(x.id,y)∈x.objs st→hd x.id=u t)∧(∀ q b,SS q b→∃ t,t < l.length∧S t b)∧(∀ q q' b,q≠q'→SS q b→¬ SS q' b) ∧
      ∀ J:In,J.W=W→(∀ b,Z b→J.Z b)→J.U st→(∀ x∈l,J.U x.k)→Agrees J (objsOf st l) hd SS →
        (∀ (t:Nat) (x:NL),l[t]?=some x→Cok J (x.cell st) (u t))∧∀ q y,(q,y)∈objsOf st l→Ook J q y.2.2
  | [],u,S,_,_,_=>⟨fun _=>undef,fun _ _=>False,by simp,by simp,by simp,fun J _ _ _ _ _=>⟨by simp,by simp [objsOf]⟩⟩
  | x::l,u,S,h,hn,hd=>by
    have hob:objsOf st (x::l)=x.objs st++objsOf st l:=by simp [objsOf]
    rw [hob] at hn
    simp only [idsOf,List.map_append] at hn
    obtain ⟨hn1,hn2,hn3⟩:=List.nodup_append.1 hn
    obtain ⟨hd1,S1,a1,a2,a3,a4⟩:=unpack_ok (h 0 x rfl) x.id x.k x.m st
    obtain ⟨hd2,S2,b1,b2,b3,b4⟩:=hold_all st l (fun t=>u (t+1)) (fun t=>S (t+1)) (fun t y hy=>h (t+1) y (by simpa using hy)) hn2 (fun t t' b hne=>hd (t+1) (t'+1) b (by omega))
    have hin:∀ q y,(q,y)∈objsOf st l→q ∉ idsOf (x.objs st):=fun q y hq hq'=>hn3 q hq' q (List.mem_map.2 ⟨_,hq,rfl⟩) rfl
    refine ⟨fun q=>if q∈idsOf (x.objs st) then hd1 q else hd2 q,fun q b=>if q∈idsOf (x.objs st) then S1 q b else S2 q b,?_,?_,?_,?_⟩
    · intro t y hy z hz
      cases t with
      | zero =>
        simp at hy; subst hy
        have hin':x.id∈idsOf (x.objs st):=List.mem_map.2 ⟨_,hz,rfl⟩
        show (if x.id∈idsOf (x.objs st) then hd1 x.id else hd2 x.id)=u 0
        rw [if_pos hin',a1]
      | succ t =>
        have hy':l[t]?=some y:=by simpa using hy
        have hz':(y.id,z)∈objsOf st l:=List.mem_flatMap.2 ⟨y,List.mem_of_getElem? hy',hz⟩
        show (if y.id∈idsOf (x.objs st) then hd1 y.id else hd2 y.id)=u (t+1)
        rw [if_neg (hin _ _ hz')]
        exact b1 t y hy' z hz
    · intro q b hb
      split at hb
      · exact ⟨0,by simp,a2 q b hb⟩
      · obtain ⟨t,h1,h2⟩:=b2 q b hb
        exact ⟨t+1,by simpa using h1,h2⟩
    · intro q q' b hne hb hb'
      split at hb<;>split at hb'
      · exact a3 q q' b hne hb hb'
      · obtain ⟨t,_,h2⟩:=b2 q' b hb'
        exact hd 0 (t+1) b (by omega) (a2 q b hb) h2
      · obtain ⟨t,_,h2⟩:=b2 q b hb
        exact hd 0 (t+1) b (by omega) (a2 q' b hb') h2
      · exact b3 q q' b hne hb hb'
    · intro J hW hZ hst hk ha
      rw [hob] at ha
      have ha1:Agrees J (unpack x.id x.k x.m st x.d).2 hd1 S1:=by
        intro q y hq
        obtain ⟨h1,h2,h3⟩:=ha q y (List.mem_append.2 (.inl hq))
        have:q∈idsOf (x.objs st):=List.mem_map.2 ⟨_,hq,rfl⟩
        simp only [if_pos this] at h2 h3
        exact ⟨h1,h2,h3⟩
      have ha2:Agrees J (objsOf st l) hd2 S2:=by
        intro q y hq
        obtain ⟨h1,h2,h3⟩:=ha q y (List.mem_append.2 (.inr hq))
        simp only [if_neg (hin q y hq)] at h2 h3
        exact ⟨h1,h2,h3⟩
      obtain ⟨c1,c2⟩:=a4 J hW hZ (hk x (by simp)) hst ha1
      obtain ⟨d1,d2⟩:=b4 J hW hZ hst (fun y hy=>hk y (by simp [hy])) ha2
      refine ⟨fun t y hy=>?_,fun q y hq=>?_⟩
      · cases t with
        | zero=>simp at hy; subst hy; exact c1
        | succ t=>exact d1 t y (by simpa using hy)
      · rw [hob] at hq
        rcases List.mem_append.1 hq with hq | hq
        · exact c2 q y hq
        · exact d2 q y hq

theorem lookup_mem {objs:Objs}:∀ {q:Id} {x:Nat × Nat × O},(q,x)∈objs→(idsOf objs).Nodup→objs.lookup q=some x:=by
  induction objs with
  | nil=>intro q x h; simp at h
  | cons p l ih =>
    intro q x h hn
    simp only [idsOf,List.map_cons,List.nodup_cons] at hn
    rcases List.mem_cons.1 h with h | h
    · subst h; simp [List.lookup]
    · have hne:q≠p.1:=fun e=>hn.1 (e ▸ List.mem_map.2 ⟨_,h,rfl⟩)
      rw [List.lookup,show (q == p.1)=false by simpa using hne]
      exact ih h hn.2
theorem mem_lookup {objs:Objs}:∀ {q:Id} {x:Nat × Nat × O},objs.lookup q=some x→(q,x)∈objs:=by
  induction objs with
  | nil=>intro q x h; simp [List.lookup] at h
  | cons p l ih =>
    intro q x h
    obtain ⟨p1,p2⟩:=p
    by_cases e:q=p1
    · subst e; simp [List.lookup] at h; subst h; simp
    · rw [List.lookup,show (q == p1)=false by simpa using e] at h
      exact List.mem_cons_of_mem _ (ih h)

def updMany (ks:List Id) (objs:Objs):List (Id × Option (Nat × Nat × O)):=(ks++idsOf objs).map fun q=>(q,objs.lookup q)
theorem upds_map (s:St) (f:Id→Option (Nat × Nat × O)) (l:List Id) (q:Id):(s.upds (l.map fun q=>(q,f q))).H q=if q∈l then f q else s.H q:=by
  induction l generalizing s with
  | nil=>simp [St.upds]
  | cons p l ih =>
    simp only [List.map_cons,St.upds,ih,List.mem_cons]
    by_cases h:q∈l
    · simp [h]
    · by_cases e:q=p
      · subst e; simp [h,St.obj]
      · simp [h,e,St.obj]

section
variable {w:World} {M:Mz} {n:Nat} {I:In} {s:St} {a:Act}

def In.setsOf (I:In) (ks:List Id) (b:Nat):Prop:=∃ q x,q∈ks∧I.H q=some x∧I.S q b

theorem RelI.after (h:RelI w M n I s a) (ks:List Id) (st:Nat) (hst:¬ I.U st) (W':World) (Zj:Nat→Prop) (l:List NL) (u:Nat→Value) (S:Nat→Nat→Prop) (hext:Ext (I.setsOf ks) I.W W')
    (hZ1:∀ b,I.Z b→Zj b) (hZ2:∀ b,Zj b→b < W'.heap.size∧(I.Z b∨I.setsOf ks b∨I.W.heap.size≤b)) (how:∀ (t:Nat) (x:NL),l[t]?=some x→Ow W' Zj (S t) x.d (u t))
    (hS:∀ t b,t < l.length→S t b→b < W'.heap.size∧¬ Zj b∧(I.setsOf ks b∨I.W.heap.size≤b)) (hdis:∀ t t' b,t≠t'→S t b→¬ S t' b) (hnd:(idsOf (objsOf st l)).Nodup)
    (hstamp:∀ (t:Nat) (x:NL),l[t]?=some x→x.m=st∧(x.k=st∨(x.id∈ks∧∃ m0 o0,I.H x.id=some (x.k,m0,o0)∧u t=I.hd x.id∧(∀ e sz l',x.d=.sl true e sz l'→∃ l0,o0=.row e sz l0)))) :
    ∃ J:In,J.W=W'∧J.U=(fun q=>I.U q∨q=st)∧J.Z=Zj∧RelI w M n J (s.upds (updMany ks (objsOf st l))) a∧∀ (t:Nat) (x:NL),l[t]?=some x→Cok J (x.cell st) (u t):=by
  obtain ⟨hd,SS,h1,h2,h3,h4⟩:=hold_all st l u S how hnd hdis
  let J:In:=⟨W',Zj,fun q=>if q∈ks++idsOf (objsOf st l) then hd q else I.hd q,fun q=>if q∈ks++idsOf (objsOf st l) then SS q else I.S q,fun q=>I.U q∨q=st,
    fun q=>if q∈ks++idsOf (objsOf st l) then (objsOf st l).lookup q else I.H q⟩
  have hHq:∀ q,q∈ks++idsOf (objsOf st l)→J.H q=(objsOf st l).lookup q:=fun q hq=>if_pos hq
  have hmem:∀ q y,J.H q=some y→q∈ks++idsOf (objsOf st l)→(q,y)∈objsOf st l:=fun q y hy hq=>mem_lookup ((hHq q hq).symm.trans hy)
  have hkU:∀ x∈l,J.U x.k:=by
    intro x hx
    obtain ⟨t,ht⟩:=List.mem_iff_getElem?.1 hx
    obtain ⟨_,h5⟩:=hstamp t x ht
    rcases h5 with h5 | ⟨_,m0,o0,h6,_⟩
    · exact .inr h5
    · exact .inl (h.objs _ _ _ _ h6).1
  have hag:Agrees J (objsOf st l) hd SS:=by
    intro q y hq
    have hin:q∈ks++idsOf (objsOf st l):=List.mem_append.2 (.inr (List.mem_map.2 ⟨_,hq,rfl⟩))
    exact ⟨(hHq q hin).trans (lookup_mem hq hnd),if_pos hin,if_pos hin⟩
  obtain ⟨c1,c2⟩:=h4 J rfl (fun _ h=>h) (.inr rfl) hkU hag
  have hfrom:∀ q y,(q,y)∈objsOf st l→∃ (t:Nat) (x:NL),l[t]?=some x∧(q,y)∈x.objs st:=by
    intro q y hq
    obtain ⟨x,hx,hq⟩:=List.mem_flatMap.1 hq
    obtain ⟨t,ht⟩:=List.mem_iff_getElem?.1 hx
    exact ⟨t,x,ht,hq⟩
  have c:Chg (fun q=>q∈ks++idsOf (objsOf st l)) I J:=by
    refine { same:=fun q hq=>⟨if_neg hq,if_neg hq,if_neg hq⟩,z:=hZ1,u:=fun _ h=>.inl h,ext:=?_,stamps:=?_,sets:=?_,disj:=?_,zone:=?_ }
    · refine ⟨hext.os,hext.tape,hext.output,hext.size,fun b hb hn=>hext.block b hb ?_⟩
      rintro ⟨q,x,hq,hx,hs⟩
      exact hn ⟨q,x,List.mem_append.2 (.inl hq),hx,hs⟩
    · intro q k m o hq ho
      obtain ⟨t,x,ht,hqx⟩:=hfrom q _ (hmem q _ ho hq)
      obtain ⟨hm,hk⟩:=hstamp t x ht
      have hcase:(q=x.id∧k=x.k∧m=x.m∧((∃ e sz l',x.d=.sl true e sz l'∧o=.row e sz l')∨(∃ ds cs,x.d=.pt true ds∧o=.box cs)))∨(k=st∧m=st):=by
        have h0:∀ (id:Id) (k' m':Nat) (d:D),(q,(k,m,o))∈(unpack0 id k' m' d).2→q=id∧k=k'∧m=m'∧∃ e sz l',d=.sl true e sz l'∧o=.row e sz l':=by
          intro id k' m' d hq
          unfold unpack0 at hq
          split at hq<;>simp at hq
          obtain ⟨rfl,rfl,rfl,rfl⟩:=hq
          exact ⟨rfl,rfl,rfl,_,_,_,rfl,rfl⟩
        unfold NL.objs unpack at hqx
        split at hqx
        · rename_i ds hds
          simp only [List.mem_cons,Prod.mk.injEq] at hqx
          rcases hqx with ⟨rfl,rfl,rfl,rfl⟩ | hqx
          · exact .inl ⟨rfl,rfl,rfl,.inr ⟨ds,_,hds,rfl⟩⟩
          · have hL:∀ (id:Id) (l:List D) (i:Nat),(q,(k,m,o))∈(unpackL id st i l).2→k=st∧m=st:=by
              intro id l
              induction l with
              | nil=>intro i hq; simp [unpackL] at hq
              | cons d l ih =>
                intro i hq
                simp only [unpackL,List.mem_append] at hq
                rcases hq with hq | hq
                · obtain ⟨_,h6,h7,_⟩:=h0 _ _ _ _ hq; exact ⟨h6,h7⟩
                · exact ih _ hq
            exact .inr (hL _ _ _ hqx)
        · obtain ⟨h6,h7,h8,h9⟩:=h0 _ _ _ _ hqx
          exact .inl ⟨h6,h7,h8,.inl h9⟩
      rcases hcase with ⟨rfl,rfl,rfl,hkind⟩ | ⟨rfl,rfl⟩
      · refine ⟨hm ▸ hst,.inr hm,?_,?_⟩
        · exact hkU x (List.mem_of_getElem? ht)
        · rcases hk with hk | ⟨_,m0,o0,h6,h7,h8⟩
          · exact .inl (hk ▸ hst)
          · refine .inr ⟨m0,o0,h6,?_,?_⟩
            · have:J.hd x.id=hd x.id:=if_pos hq
              rw [this,h1 t x ht _ hqx,h7]
            · intro e sz l' he
              rcases hkind with ⟨e2,sz2,l2,h9,h10⟩ | ⟨ds,cs,_,h10⟩
              · rw [he] at h10
                simp only [O.row.injEq] at h10
                obtain ⟨rfl,rfl,rfl⟩:=h10
                exact h8 _ _ _ h9
              · rw [he] at h10; cases h10
      · exact ⟨hst,.inr rfl,.inr rfl,.inl hst⟩
    · intro q x hq hx b hb
      have hb':SS q b:=by
        have:J.S q=SS q:=if_pos hq
        rw [this] at hb; exact hb
      obtain ⟨t,ht,hbt⟩:=h2 q b hb'
      obtain ⟨h5,h6,h7⟩:=hS t b ht hbt
      refine ⟨h5,h6,?_⟩
      rcases h7 with ⟨q',x',hq',hx',hs'⟩ | h7
      · exact .inl ⟨q',x',List.mem_append.2 (.inl hq'),hx',hs'⟩
      · exact .inr h7
    · intro q q' x x' hne hq hq' _ _ b hb hb'
      have e1:J.S q=SS q:=if_pos hq
      have e2:J.S q'=SS q':=if_pos hq'
      rw [e1] at hb
      rw [e2] at hb'
      exact h3 q q' b hne hb hb'
    · intro b hb
      obtain ⟨h5,h6⟩:=hZ2 b hb
      refine ⟨h5,?_⟩
      rcases h6 with h6 | ⟨q',x',hq',hx',hs'⟩ | h6
      · exact .inl h6
      · exact .inr (.inl ⟨q',x',List.mem_append.2 (.inl hq'),hx',hs'⟩)
      · exact .inr (.inr h6)
  refine ⟨J,rfl,rfl,rfl,h.chg c ?_ (upds_slots _ _) ?_,c1⟩
  · funext q
    rw [updMany,upds_map,← h.hH]
  · intro q k m o hq ho
    exact c2 q _ (hmem q _ ho hq)
end
end Go.Ev

namespace Go.Ev
variable [Lay]

abbrev Sh:=List (Bool × Nat)
def wd (p:Bool × Nat):Nat:=if p.1 then p.2 else 1
def mkVs:Sh→(Nat→Value)→List Value
  | [],_=>[]
  | p::l,g=>mkV p.1 p.2 g::mkVs l (fun i=>g (wd p+i))
def Sh.total:Sh→Nat
  | []=>0
  | p::l=>wd p+Sh.total l
def resV (sh:Sh) (h:Nat→Value):Value:=match mkVs sh h with
  | [v]=>v
  | l=>.tuple l.toArray
def mkSVs:Sh→List C→List SV
  | [],_=>[]
  | p::l,cs=>(if p.1 then .agg (cs.take p.2) else match cs with | c::_=>if p.2≤1 then .one c else .one (.both (.clo (p.2 - 2) [] [c]) .bad) | []=>.bad)::mkSVs l (cs.drop (wd p))
def resSV (sh:Sh) (cs:List C):SV:=match mkSVs sh cs with
  | [v]=>v
  | l=>.tup l

theorem mkVs_append:∀ (a b:Sh) (g:Nat→Value),mkVs (a++b) g=mkVs a g++mkVs b (fun i=>g (a.total+i))
  | [],b,g=>by simp [mkVs,Sh.total]
  | p::a,b,g=>by
    simp only [List.cons_append,mkVs,mkVs_append a b,Sh.total,List.cons.injEq,true_and]
    congr 1
    funext
    simp [Nat.add_assoc]
theorem mkVs_congr:∀ (a:Sh) (g g':Nat→Value),(∀ i,i < a.total→g i=g' i)→mkVs a g=mkVs a g'
  | [],_,_,_=>rfl
  | p::a,g,g',h=>by
    have h0:mkV p.1 p.2 g=mkV p.1 p.2 g':=by
      unfold mkV
      split
      · rename_i hb
        congr 2
        funext j
        exact h j (by simp only [Sh.total,wd,hb,if_true]; have:=j.2; omega)
      · rename_i hb
        have e:=h 0 (by simp only [Sh.total,wd]; rw [if_neg hb]; omega)
        rw [e]
    simp only [mkVs,h0,List.cons.injEq,true_and]
    exact mkVs_congr a _ _ fun i hi=>h (wd p+i) (by simp only [Sh.total]; omega)

theorem mkSVs_ok {I:In}:∀ (sh:Sh) (cs:List C) (h:Nat→Value),sh.total=cs.length→(∀ (t:Nat) (c:C),cs[t]?=some c→Cok I c (h t)) →
    (mkSVs sh cs).length=(mkVs sh h).length∧∀ (i:Nat) (x:SV),(mkSVs sh cs)[i]?=some x→SVok I x ((mkVs sh h).getD i undef)
  | [],cs,h,_,_=>by simp [mkSVs,mkVs]
  | p::sh,cs,h,ht,hc=>by
    simp only [Sh.total] at ht
    obtain ⟨h1,h2⟩:=mkSVs_ok (I:=I) sh (cs.drop (wd p)) (fun i=>h (wd p+i)) (by simp; omega) (fun t c ht=>hc (wd p+t) c (by simpa using ht))
    refine ⟨by simp [mkSVs,mkVs,h1],fun i x hi=>?_⟩
    cases i with
    | succ i=>simpa [mkVs] using h2 i x (by simpa [mkSVs] using hi)
    | zero =>
      simp only [mkSVs,List.getElem?_cons_zero,Option.some.injEq] at hi
      subst hi
      simp only [mkVs,List.getD_cons_zero]
      cases hb:p.1 with
      | true =>
        have hw:wd p=p.2:=by simp [wd,hb]
        simp only [if_true,mkV]
        refine .agg _ _ (by simp; omega) fun j c hj=>?_
        have hjlt:j < p.2:=by
          have:=(List.getElem?_eq_some_iff.1 hj).1
          simp at this; omega
        have e:(Array.ofFn fun j:Fin p.2=>h j).getD j undef=h j:=by simp [Array.getD,hjlt]
        rw [e]
        refine hc j c ?_
        rw [List.getElem?_take,if_pos hjlt] at hj
        exact hj
      | false =>
        simp only [Bool.false_eq_true,if_false,mkV]
        cases cs with
        | nil=>exact .bad _
        | cons c cs =>
          have h0:=hc 0 c rfl
          by_cases h1:p.2≤1
          · simp only [if_pos h1]; exact .one _ _ h0
          · simp only [if_neg h1]
            refine .one _ _ (.both _ _ _ (.clo _ [] [c] #[] #[h 0] rfl (fun _ _=>undef) rfl (by simp) (by simp) fun i c' hi=>?_) (.bad _ rfl))
            cases i with
            | zero=>simp at hi; subst hi; exact h0
            | succ i=>simp at hi
theorem resSV_ok {I:In} (sh:Sh) (cs:List C) (h:Nat→Value) (ht:sh.total=cs.length) (_hp:∀ p∈sh,p.1=false→p.2=1) (hc:∀ (t:Nat) (c:C),cs[t]?=some c→Cok I c (h t)) :
    SVok I (resSV sh cs) (resV sh h):=by
  obtain ⟨h1,h2⟩:=mkSVs_ok sh cs h ht hc
  unfold resSV resV
  revert h1 h2
  generalize mkSVs sh cs=a
  generalize mkVs sh h=b
  intro h1 h2
  cases a with
  | nil =>
    cases b with
    | nil=>exact .tup _ _ (by simp) (by simp)
    | cons=>simp at h1
  | cons x a =>
    cases b with
    | nil=>simp at h1
    | cons y b =>
      cases a with
      | nil =>
        cases b with
        | nil=>exact h2 0 x rfl
        | cons=>simp at h1
      | cons x2 a =>
        cases b with
        | nil=>simp at h1
        | cons y2 b =>
          refine .tup _ _ (by simpa using h1.symm) fun i s hi=>?_
          have:=h2 i s hi
          simpa using this

def Sep (S:Nat→Nat→Prop):Prop:=∀ t t' b,t≠t'→S t b→¬ S t' b

structure Post (W W':World) (Z Z' TT:Nat→Prop) (L:List D) (u:Nat→Value) (S:Nat→Nat→Prop):Prop where
  ext:Ext TT W W'
  sub:∀ b,Z b→Z' b
  zone:∀ b,Z' b→b < W'.heap.size∧(Z b∨TT b∨W.heap.size≤b)
  how:∀ (t:Nat) (d:D),L[t]?=some d→Ow W' Z' (S t) d (u t)
  sets:∀ t b,S t b→b < W'.heap.size∧¬ Z' b∧(TT b∨W.heap.size≤b)
  sep:Sep S

structure Fn (P:Program) (f:FuncId):Prop where
  ex:∃ fn,P.funcs[f]?=some fn∧fn.name ≠ "runtime.NumGoroutine" ∧ fn.body≠none

structure Trip (P:Program) (f:FuncId) (sh:Sh) (ds:List D) (rsh:Sh) (outs:List D) (aft:List (Nat × D)):Prop where
  fn:Fn P f
  run:∀ (W:World) (Z:Nat→Prop) (g:Nat→Value) (T:Nat→Nat→Prop),(∀ b,Z b→b < W.heap.size)→Laid W Z→(∀ (t:Nat) (d:D),ds[t]?=some d→Ow W Z (T t) d (g t)) →
    (∀ t b,T t b→b < W.heap.size∧¬ Z b)→Sep T →
    Calls P f (mkVs sh g).toArray W fun e W'=>∃ (h:Nat→Value) (Z':Nat→Prop) (S:Nat→Nat→Prop),e=.returned (resV rsh h) ∧
      Post W W' Z Z' (fun b=>∃ t,T t b) (outs++aft.map (·.2)) (fun t=>if t < outs.length then h t else g (aft.getD (t - outs.length) (0,.v undef)).1) S

/-! ### arguments -/
def argC:SV→Option ((Bool × Nat) × List C)
  | .one (.both (.clo f [] [c]) .bad)=>some ((false,f+2),[c])
  | .one c=>some ((false,1),[c])
  | .agg cs=>some ((true,cs.length),cs)
  | _=>none
def argsC (s:St):List Operand→Option (Sh × List C)
  | []=>some ([],[])
  | x::l=>match argC (s.eval x),argsC s l with
    | some p,some r=>some (p.1::r.1,p.2++r.2)
    | _,_=>none

theorem mkV_one (g:Nat→Value):mkV false 1 g=g 0:=rfl
theorem mkV_agg {us:Array Value} {n:Nat} (h:us.size=n):mkV true n (fun i=>us.getD i undef)=.agg us:=by
  subst h
  simp only [mkV,if_true]
  congr 1
  apply Array.ext
  · simp
  · intro i h1 h2
    simp [Array.getD]

theorem shape_cons {p:Bool × Nat} {sh:Sh} {cs0 cs:List C} {I:In} (hp:wd p=cs0.length) {g0 g:Nat→Value} (h0:∀ (t:Nat) (c:C),cs0[t]?=some c→Cok I c (g0 t)) (h:∀ (t:Nat) (c:C),cs[t]?=some c→Cok I c (g t)):∃ g',mkVs (p::sh) g'=mkV p.1 p.2 g0::mkVs sh g∧∀ (t:Nat) (c:C),(cs0++cs)[t]?=some c→Cok I c (g' t):=by
  refine ⟨fun i=>if i < wd p then g0 i else g (i - wd p),?_,?_⟩
  · simp only [mkVs,List.cons.injEq]
    constructor
    · unfold mkV
      split
      · rename_i h1
        congr 2; funext j; simp [wd,h1]
      · rename_i h1
        have:wd p=1:=by simp [wd,h1]
        simp [this]
    · congr 1
      funext i
      show (if wd p+i < wd p then g0 (wd p+i) else g (wd p+i - wd p))=g i
      rw [if_neg (by omega),Nat.add_sub_cancel_left]
  · intro t c ht
    rw [List.getElem?_append] at ht
    split at ht
    · rename_i h1
      show Cok I c (if t < wd p then g0 t else _)
      rw [if_pos (by omega)]; exact h0 t c ht
    · rename_i h1
      show Cok I c (if t < wd p then g0 t else g (t - wd p))
      rw [if_neg (by omega),hp]; exact h _ c ht

theorem argC_ok {I:In} {sv:SV} {u:Value} (h:SVok I sv u) {p:Bool × Nat} {cs:List C} (he:argC sv=some (p,cs)):wd p=cs.length∧∃ g0,u=mkV p.1 p.2 g0∧∀ (t:Nat) (c:C),cs[t]?=some c→Cok I c (g0 t):=by
  have one:∀ (c:C) (u:Value),Cok I c u→∀ (t:Nat) (c':C),[c][t]?=some c'→Cok I c' ((fun _=>u) t):=fun c u hc t c' ht=>by
    cases t with
    | zero=>simp at ht; subst ht; exact hc
    | succ=>simp at ht
  unfold argC at he
  split at he
  · rename_i f c
    simp only [Option.some.injEq,Prod.mk.injEq] at he
    obtain ⟨rfl,rfl⟩:=he
    cases h with
    | one _ _ hc =>
      cases hc with
      | both _ _ _ h1 _ =>
        cases h1 with
        | clo _ _ _ fs us hs fv hf hfv hrf hrd =>
          refine ⟨rfl,fun _=>us.getD 0 undef,?_,one _ _ (hrd 0 _ rfl)⟩
          have e1:fs=#[]:=by simpa using hf
          have e2:us=#[us.getD 0 undef]:=by
            refine Array.ext (by simpa using hs) fun i h4 h5=>?_
            have:i=0:=by simp at h5; omega
            subst this
            simp [h4]
          rw [e1]
          simp only [mkV,Bool.false_eq_true,if_false]
          rw [if_neg (by omega),Nat.add_sub_cancel,← e2]
  · rename_i c hn
    simp only [Option.some.injEq,Prod.mk.injEq] at he
    obtain ⟨rfl,rfl⟩:=he
    cases h with
    | one _ _ hc=>exact ⟨rfl,fun _=>u,rfl,one _ _ hc⟩
  · simp only [Option.some.injEq,Prod.mk.injEq] at he
    obtain ⟨rfl,rfl⟩:=he
    cases h with
    | agg _ us hs hc=>exact ⟨rfl,fun i=>us.getD i undef,(mkV_agg hs).symm,hc⟩
  · cases he
theorem argsC_ok {w:World} {M:Mz} {n:Nat} {I:In} {s s0:St} {a:Act} (hr:RelI w M n I s a):∀ (l:List Operand) {sh:Sh} {cs:List C},argsC s0 l=some (sh,cs)→(∀ p∈preOfs s0 l,s.slots p.1=p.2) →
    (∃ g,l.map a.eval=mkVs sh g∧∀ (t:Nat) (c:C),cs[t]?=some c→Cok I c (g t))∧sh.total=cs.length
  | [],sh,cs,h,_=>by
    simp only [argsC,Option.some.injEq,Prod.mk.injEq] at h
    obtain ⟨rfl,rfl⟩:=h
    exact ⟨⟨fun _=>undef,rfl,by simp⟩,rfl⟩
  | x::l,sh,cs,h,hp=>by
    have hex:=hr.eval x
    rw [eval_pre (s0:=s0) fun p hpm=>hp p (by simp only [preOfs,List.flatMap_cons,List.mem_append]; exact .inl hpm)] at hex
    simp only [argsC] at h
    cases hq:argsC s0 l with
    | none=>rw [hq] at h; cases argC (s0.eval x)<;>simp at h
    | some r =>
      obtain ⟨⟨g,h1,h2⟩,h3⟩:=argsC_ok hr l (sh:=r.1) (cs:=r.2) hq fun p hpm=>hp p (by simp only [preOfs,List.flatMap_cons,List.mem_append]; exact .inr hpm)
      cases hx:argC (s0.eval x) with
      | none=>rw [hq,hx] at h; simp at h
      | some y =>
        rw [hq,hx] at h
        obtain ⟨p,cs0⟩:=y
        simp only [Option.some.injEq,Prod.mk.injEq] at h
        obtain ⟨rfl,rfl⟩:=h
        obtain ⟨h6,g0,h7,h8⟩:=argC_ok hex hx
        obtain ⟨g',h4,h5⟩:=shape_cons (p:=p) (sh:=r.1) (cs0:=cs0) (cs:=r.2) h6 h8 h2
        exact ⟨⟨g',by rw [h4,List.map_cons,h1,h7],h5⟩,by simp [Sh.total,h3,h6]⟩

def calleeC:SV→Option (FuncId × Sh × List C × List C)
  | .one (.clo f first caps)=>some (f,first.map (fun x=>(x.1,x.2.length)),first.flatMap (·.2),caps)
  | .one (.d (.fn f first caps))=>some (f,first.map (fun x=>(x.1,x.2.length)),(first.flatMap (·.2)).map .d,caps.map .d)
  | .one (.both (.clo f first caps) _)=>some (f,first.map (fun x=>(x.1,x.2.length)),first.flatMap (·.2),caps)
  | _=>none

theorem firsts_ok {I:In} {X:Type} (r:X→C):∀ (first:List (Bool × List X)) (fs:List Value) (fv:Nat→Nat→Value),fs.length=first.length →
    (∀ (i:Nat) (x:Bool × List X),first[i]?=some x→fs.getD i undef=mkV x.1 x.2.length (fv i)∧(x.1=false→x.2.length=1)) →
    (∀ (i:Nat) (x:Bool × List X) (j:Nat) (c:X),first[i]?=some x→x.2[j]?=some c→Cok I (r c) (fv i j)) →
    (∃ g,fs=mkVs (first.map fun x=>(x.1,x.2.length)) g∧∀ (t:Nat) (c:C),((first.flatMap (·.2)).map r)[t]?=some c→Cok I c (g t))∧Sh.total (first.map fun x=>(x.1,x.2.length))=((first.flatMap (·.2)).map r).length
  | [],fs,fv,hl,_,_=>⟨⟨fun _=>undef,by simpa [mkVs] using hl,by simp⟩,rfl⟩
  | x::first,[],fv,hl,_,_=>by simp at hl
  | x::first,f0::fs,fv,hl,h1,h2=>by
    obtain ⟨⟨g,h3,h4⟩,h5⟩:=firsts_ok (I:=I) r first fs (fun i=>fv (i+1)) (by simpa using hl) (fun i y hy=>by simpa using h1 (i+1) y (by simpa using hy)) (fun i y j c hy hj=>h2 (i+1) y j c (by simpa using hy) hj)
    obtain ⟨h6,h7⟩:=h1 0 x rfl
    simp only [List.getD_cons_zero] at h6
    obtain ⟨g',h8,h9⟩:=shape_cons (I:=I) (p:=(x.1,x.2.length)) (sh:=first.map fun x=>(x.1,x.2.length)) (cs0:=x.2.map r) (cs:=(first.flatMap (·.2)).map r) (g0:=fv 0) (by unfold wd; split<;>simp_all)
      (fun t c ht=>by
        simp only [List.getElem?_map,Option.map_eq_some_iff] at ht
        obtain ⟨c0,ht,rfl⟩:=ht
        exact h2 0 x t c0 rfl ht) h4
    refine ⟨⟨g',?_,?_⟩,?_⟩
    · rw [List.map_cons,h8,← h3,h6]
    · intro t c ht
      exact h9 t c (by simpa using ht)
    · have hw:wd (x.1,x.2.length)=x.2.length:=by unfold wd; split<;>simp_all
      simp only [List.map_cons,Sh.total,h5,hw]; simp

theorem ones_ok {I:In}:∀ (caps:List C) (us:List Value),us.length=caps.length→(∀ (i:Nat) (c:C),caps[i]?=some c→Cok I c (us.getD i undef)) →
    mkVs (caps.map fun _=>(false,1)) (fun i=>us.getD i undef)=us
  | [],us,hl,_=>by simp at hl; subst hl; rfl
  | c::caps,[],hl,_=>by simp at hl
  | c::caps,u::us,hl,h=>by
    have h1:=ones_ok (I:=I) caps us (by simpa using hl) fun i c hi=>by simpa using h (i+1) c (by simpa using hi)
    simp only [List.map_cons,mkVs,mkV_one,List.getD_cons_zero,List.cons.injEq,true_and]
    rw [← h1]
    refine mkVs_congr _ _ _ fun i hi=>?_
    rw [h1]
    simp [wd,Nat.add_comm 1 i]
theorem firsts_shape {X:Type} (first:List (Bool × List X)) (fs:Array Value) (fv:Nat→Nat→Value) (h:∀ (i:Nat) (x:Bool × List X),first[i]?=some x→fs.getD i undef=mkV x.1 x.2.length (fv i)∧(x.1=false→x.2.length=1)) :
    ∀ p∈(first.map fun x=>(x.1,x.2.length):Sh),p.1=false→p.2=1:=by
  intro p hp
  obtain ⟨x,hx,rfl⟩:=List.mem_map.1 hp
  obtain ⟨i,hi⟩:=List.mem_iff_getElem?.1 hx
  exact (h i x hi).2

theorem calleeC_ok {I:In} {sv:SV} {u:Value} (hs:SVok I sv u) {f:FuncId} {sh:Sh} {cs caps:List C} (h:calleeC sv=some (f,sh,cs,caps)) :
    ∃ fs us g g',u=.func (.func f) fs us∧fs.toList=mkVs sh g∧us.toList=mkVs (caps.map fun _=>(false,1)) g'∧(∀ (t:Nat) (c:C),cs[t]?=some c→Cok I c (g t))∧(∀ (t:Nat) (c:C),caps[t]?=some c→Cok I c (g' t))∧sh.total=cs.length∧∀ p∈sh,p.1=false→p.2=1:=by
  have key:∀ {X:Type} (r:X→C) (first:List (Bool × List X)) (caps:List X) (fs us:Array Value) (fv:Nat→Nat→Value),us.size=caps.length→fs.size=first.length →
      (∀ (i:Nat) (x:Bool × List X),first[i]?=some x→fs.getD i undef=mkV x.1 x.2.length (fv i)∧(x.1=false→x.2.length=1)) →
      (∀ (i:Nat) (x:Bool × List X) (j:Nat) (c:X),first[i]?=some x→x.2[j]?=some c→Cok I (r c) (fv i j))→(∀ (i:Nat) (c:X),caps[i]?=some c→Cok I (r c) (us.getD i undef)) →
      ∃ g g',fs.toList=mkVs (first.map fun x=>(x.1,x.2.length)) g∧us.toList=mkVs ((caps.map r).map fun _=>(false,1)) g'∧(∀ (t:Nat) (c:C),((first.flatMap (·.2)).map r)[t]?=some c→Cok I c (g t)) ∧
        (∀ (t:Nat) (c:C),(caps.map r)[t]?=some c→Cok I c (g' t))∧Sh.total (first.map fun x=>(x.1,x.2.length))=((first.flatMap (·.2)).map r).length:=by
    intro X r first caps fs us fv hs hf hfv hrf hrd
    obtain ⟨⟨g,h1,h2⟩,h3⟩:=firsts_ok (I:=I) r first fs.toList fv (by simpa using hf) (fun i x hx=>by simpa using hfv i x hx) hrf
    have h4:∀ (i:Nat) (c:C),(caps.map r)[i]?=some c→Cok I c (us.toList.getD i undef):=by
      intro i c hi
      simp only [List.getElem?_map,Option.map_eq_some_iff] at hi
      obtain ⟨c0,hi,rfl⟩:=hi
      simpa using hrd i c0 hi
    exact ⟨g,_,h1,(ones_ok (caps.map r) us.toList (by simpa using hs) h4).symm,h2,h4,h3⟩
  cases hs with
  | one c u hc =>
    cases hc with
    | clo f' first caps' fs us hs fv hf hfv hrf hrd =>
      simp only [calleeC,Option.some.injEq,Prod.mk.injEq] at h
      obtain ⟨rfl,rfl,rfl,rfl⟩:=h
      obtain ⟨g,g',h1,h2,h3,h4,h5⟩:=key id first caps' fs us fv hs hf hfv hrf hrd
      have h6:=firsts_shape first fs fv hfv
      simp only [List.map_id] at h2 h3 h4 h5
      exact ⟨fs,us,g,g',rfl,h1,by simpa using h2,by simpa using h3,by simpa using h4,by simpa using h5,h6⟩
    | both c c' u h0 _ =>
      cases h0 with
      | clo f' first caps' fs us hs fv hf hfv hrf hrd =>
        simp only [calleeC,Option.some.injEq,Prod.mk.injEq] at h
        obtain ⟨rfl,rfl,rfl,rfl⟩:=h
        obtain ⟨g,g',h1,h2,h3,h4,h5⟩:=key id first caps' fs us fv hs hf hfv hrf hrd
        have h6:=firsts_shape first fs fv hfv
        simp only [List.map_id] at h2 h3 h4 h5
        exact ⟨fs,us,g,g',rfl,h1,by simpa using h2,by simpa using h3,by simpa using h4,by simpa using h5,h6⟩
      | _=>simp [calleeC] at h
    | d x u hc =>
      cases hc with
      | fn f' first caps' fs us hs fv hf hfv hrf hrd =>
        simp only [calleeC,Option.some.injEq,Prod.mk.injEq] at h
        obtain ⟨rfl,rfl,rfl,rfl⟩:=h
        obtain ⟨g,g',h1,h2,h3,h4,h5⟩:=key C.d first caps' fs us fv hs hf hfv (fun i x j c hx hj=>.d _ _ (hrf i x j c hx hj)) fun i c hi=>.d _ _ (hrd i c hi)
        exact ⟨fs,us,g,g',rfl,h1,h2,h3,h4,h5,firsts_shape first fs fv hfv⟩
      | _=>simp [calleeC] at h
    | _=>simp [calleeC] at h
  | _=>simp [calleeC] at h
end Go.Ev

namespace Go.Ev
variable [Lay]

def In.zone (I:In) (R:List Id) (b:Nat):Prop:=I.Z b∨I.setsOf R b

def Gives (R:List Id) (preH:Objs) (c:C) (d:D) (ks:List Id):Prop :=
  ∀ (w:World) (M:Mz) (n:Nat) (I:In) (s:St) (a:Act) (u:Value),RelI w M n I s a→(∀ p∈preH,s.H p.1=some p.2)→Cok I c u→Ow I.W (I.zone R) (I.setsOf ks) d u

inductive Given (R:List Id) (preH:Objs):List C→List D→List (List Id)→Prop where
  | nil:Given R preH [] [] []
  | cons {c:C} {d:D} {ks:List Id} {cs:List C} {ds:List D} {gs:List (List Id)} (h:Gives R preH c d ks) (t:Given R preH cs ds gs):Given R preH (c::cs) (d::ds) (ks::gs)

def Frz (d d':D):Prop:=∀ (W:World) (Z S:Nat→Prop) (u:Value),Ow W Z S d u→Rd W (fun b=>Z b∨S b) d' u
def Owned (d:D):Prop:=∀ (W:World) (Z Z' S:Nat→Prop) (u:Value),Ow W Z S d u→Ow W Z' S d u

inductive Held (st:Nat):List D→List NL→List Bool→Prop where
  | nil:Held st [] [] []
  | own (id:Id) {d:D} {l:List D} {nl:List NL} {fz:List Bool} (t:Held st l nl fz):Held st (d::l) (⟨id,st,st,d⟩::nl) (false::fz)
  | frz (id:Id) {d d':D} {l:List D} {nl:List NL} {fz:List Bool} (h:Frz d d') (t:Held st l nl fz):Held st (d::l) (⟨id,st,st,d'⟩::nl) (true::fz)
inductive Kept (st:Nat) (KS:List Id) (preH:Objs) (cs:List C):List (Nat × D)→List NL→Prop where
  | nil:Kept st KS preH cs [] []
  | ptr {p:Nat} {r:Id} {k m0:Nat} {o0:O} {ds:List D} {l:List (Nat × D)} {nl:List NL} (hc:cs[p]?=some (.ptr r k 0)) (hH:(r,(k,m0,o0))∈preH) (hk:r∈KS) (t:Kept st KS preH cs l nl) :
      Kept st KS preH cs ((p,.pt true ds)::l) (⟨r,k,st,.pt true ds⟩::nl)
  | ref {p:Nat} {r:Id} {k m0 e sz:Nat} {l0 l1:List (List D)} {l:List (Nat × D)} {nl:List NL} (hc:cs[p]?=some (.ref r k)) (hH:(r,(k,m0,.row e sz l0))∈preH) (hk:r∈KS) (t:Kept st KS preH cs l nl) :
      Kept st KS preH cs ((p,.sl true e sz l1)::l) (⟨r,k,st,.sl true e sz l1⟩::nl)
  | refB {p:Nat} {r:Id} {k m0 e sz:Nat} {c':C} {l0 l1:List (List D)} {l:List (Nat × D)} {nl:List NL} (hc:cs[p]?=some (.both (.ref r k) c')) (hH:(r,(k,m0,.row e sz l0))∈preH) (hk:r∈KS) (t:Kept st KS preH cs l nl) :
      Kept st KS preH cs ((p,.sl true e sz l1)::l) (⟨r,k,st,.sl true e sz l1⟩::nl)

theorem Held.len {st:Nat} {l:List D} {nl:List NL} {fz:List Bool} (h:Held st l nl fz):nl.length=l.length∧fz.length=l.length:=by
  induction h<;>simp_all
theorem Held.get {st:Nat} {l:List D} {nl:List NL} {fz:List Bool} (h:Held st l nl fz):∀ (t:Nat) (x:NL),nl[t]?=some x→x.m=st∧x.k=st∧∃ d,l[t]?=some d∧((fz[t]?=some false∧x.d=d)∨(fz[t]?=some true∧Frz d x.d)):=by
  induction h with
  | nil=>simp
  | own id _ ih =>
    intro t x hx
    cases t with
    | zero=>simp at hx; subst hx; exact ⟨rfl,rfl,_,rfl,.inl ⟨rfl,rfl⟩⟩
    | succ t=>exact ih t x (by simpa using hx)
  | frz id h _ ih =>
    intro t x hx
    cases t with
    | zero=>simp at hx; subst hx; exact ⟨rfl,rfl,_,rfl,.inr ⟨rfl,h⟩⟩
    | succ t=>exact ih t x (by simpa using hx)
theorem Kept.get {st:Nat} {KS:List Id} {preH:Objs} {cs:List C} {l:List (Nat × D)} {nl:List NL} (h:Kept st KS preH cs l nl):∀ (t:Nat) (x:NL),nl[t]?=some x→x.m=st∧x.id∈KS∧∃ p m0 o0,l[t]?=some (p,x.d) ∧
    (x.id,(x.k,m0,o0))∈preH∧(∀ I u,Cok I (cs.getD p .bad) u→I.H x.id=some (x.k,m0,o0)→u=I.hd x.id)∧∀ e sz l',x.d=.sl true e sz l'→∃ l0,o0=.row e sz l0:=by
  induction h with
  | nil=>simp
  | ptr hc hH hk _ ih =>
    intro t x hx
    cases t with
    | zero =>
      simp at hx; subst hx
      refine ⟨rfl,hk,_,_,_,rfl,hH,fun I u hu hI=>?_,by simp⟩
      rw [List.getD_eq_getElem?_getD,hc] at hu
      cases hu with | ptr _ _ _ g _ h2=>exact (h2 _ _ hI).symm
    | succ t=>exact ih t x (by simpa using hx)
  | ref hc hH hk _ ih =>
    intro t x hx
    cases t with
    | zero =>
      simp at hx; subst hx
      refine ⟨rfl,hk,_,_,_,rfl,hH,fun I u hu hI=>?_,?_⟩
      · rw [List.getD_eq_getElem?_getD,hc] at hu
        cases hu with | ref _ _ _ _ _ h2=>exact h2 _ _ hI
      · rintro e sz l' he
        simp only [D.sl.injEq,true_and] at he
        obtain ⟨rfl,rfl,_⟩:=he
        exact ⟨_,rfl⟩
    | succ t=>exact ih t x (by simpa using hx)
  | refB hc hH hk _ ih =>
    intro t x hx
    cases t with
    | zero =>
      simp at hx; subst hx
      refine ⟨rfl,hk,_,_,_,rfl,hH,fun I u hu hI=>?_,?_⟩
      · rw [List.getD_eq_getElem?_getD,hc] at hu
        cases hu with | both _ _ _ hu _=>cases hu with | ref _ _ _ _ _ h2=>exact h2 _ _ hI
      · rintro e sz l' he
        simp only [D.sl.injEq,true_and] at he
        obtain ⟨rfl,rfl,_⟩:=he
        exact ⟨_,rfl⟩
    | succ t=>exact ih t x (by simpa using hx)

theorem Given.get {R:List Id} {preH:Objs} {cs:List C} {ds:List D} {gs:List (List Id)} (h:Given R preH cs ds gs):(cs.length=ds.length∧gs.length=ds.length)∧∀ (t:Nat) (d:D),ds[t]?=some d→∃ c,cs[t]?=some c∧Gives R preH c d (gs.getD t []):=by
  induction h with
  | nil=>simp
  | cons h _ ih =>
    refine ⟨by simp [ih.1.1,ih.1.2],fun t d ht=>?_⟩
    cases t with
    | zero=>simp at ht; subst ht; exact ⟨_,rfl,h⟩
    | succ t=>obtain ⟨c,h1,h2⟩:=ih.2 t d (by simpa using ht); exact ⟨c,by simpa using h1,by simpa using h2⟩

theorem Ext.mono {M M':Nat→Prop} {w W:World} (h:Ext M w W) (hm:∀ b,M b→M' b):Ext M' w W :=
  ⟨h.os,h.tape,h.output,h.size,fun b hb hn=>h.block b hb fun h0=>hn (hm b h0)⟩

theorem Ow.zone {W:World} {Z Z' S:Nat→Prop} {d:D} {u:Value} (h:Ow W Z S d u) (hz:∀ b,Z b→Z' b):Ow W Z' S d u:=h.move (fun b hb=>⟨hz b hb,rfl⟩) fun _ _=>rfl

theorem Kept.place {st:Nat} {KS:List Id} {preH:Objs} {cs:List C} {l:List (Nat × D)} {nl:List NL} (h:Kept st KS preH cs l nl):∀ (p:Nat) (d:D),(p,d)∈l→cs[p]?≠none:=by
  induction h with
  | nil=>simp
  | ptr hc _ _ _ ih =>
    intro p d hm
    rcases List.mem_cons.1 hm with hm | hm
    · simp only [Prod.mk.injEq] at hm; rw [hm.1,hc]; simp
    · exact ih p d hm
  | ref hc _ _ _ ih =>
    intro p d hm
    rcases List.mem_cons.1 hm with hm | hm
    · simp only [Prod.mk.injEq] at hm; rw [hm.1,hc]; simp
    · exact ih p d hm
  | refB hc _ _ _ ih =>
    intro p d hm
    rcases List.mem_cons.1 hm with hm | hm
    · simp only [Prod.mk.injEq] at hm; rw [hm.1,hc]; simp
    · exact ih p d hm

theorem flatten_nodup:∀ {gs:List (List Id)},gs.flatten.Nodup→∀ (t t':Nat) (q:Id),q∈gs.getD t []→q∈gs.getD t' []→t=t'
  | [],_,t,t',q,h,_=>by simp at h
  | g::gs,hn,t,t',q,h,h'=>by
    rw [List.flatten_cons,List.nodup_append] at hn
    obtain ⟨_,h2,h3⟩:=hn
    have hin:∀ t,q∈gs.getD t []→q∈gs.flatten:=by
      intro t ht
      rw [List.getD_eq_getElem?_getD] at ht
      cases hgt:gs[t]? with
      | none=>rw [hgt] at ht; simp at ht
      | some l=>rw [hgt] at ht; exact List.mem_flatten.2 ⟨l,List.mem_of_getElem? hgt,ht⟩
    cases t with
    | zero =>
      cases t' with
      | zero=>rfl
      | succ t'=>exact absurd rfl (h3 q (by simpa using h) q (hin t' (by simpa using h')))
    | succ t =>
      cases t' with
      | zero=>exact absurd rfl (h3 q (by simpa using h') q (hin t (by simpa using h)))
      | succ t'=>rw [flatten_nodup h2 t t' q (by simpa using h) (by simpa using h')]

theorem Sh.total_append (a b:Sh):Sh.total (a++b)=a.total+b.total:=by
  induction a with
  | nil=>simp [Sh.total]
  | cons p a ih=>simp [Sh.total,ih]; omega

theorem callFunc_fn {P:Program} {f:FuncId} (h:Fn P f) (args:Array Value) (w:World):(callFunc f args).run P w=.ok (.enter f args) w:=by
  obtain ⟨fn,h1,h2,h3⟩:=h.ex
  simp [callFunc,h1,h2,h3]

theorem RelI.laidAt {w:World} {M:Mz} {n:Nat} {I:In} {s:St} {a:Act} (h:RelI w M n I s a) {Z:Nat→Prop} (hZ:∀ b,I.Z b→Z b):Laid I.W Z:=fun p hp=>by
  obtain ⟨h1,h2⟩:=h.laid p hp
  have hz:∀ b,M.z b→Z b∧I.W.heap[b]?=w.heap[b]?:=fun b hb=>⟨hZ b (h.zlo b hb),h.ext.block b (h.zm b hb).1 (h.zm b hb).2⟩
  refine ⟨(hz _ h1).1,fun i c hi=>?_⟩
  obtain ⟨v,h3,h4⟩:=h2 i c hi
  exact ⟨v,by rw [← h3]; exact World.cell?_of_block (show I.W.heap[(⟨p.1,i,none⟩:Addr).block]?=w.heap[(⟨p.1,i,none⟩:Addr).block]? from (hz _ h1).2),h4.move hz⟩

theorem OpS.call {P:Program} {o:Oper} (st:Nat) (s0:St) (R:List Id) (preH:Objs) {c:Call} {fo:Operand} {f:FuncId} {fsh sh rsh:Sh} {fcs cs caps:List C} {ds outs:List D} {aft:List (Nat × D)} {gs:List (List Id)} {nl nla:List NL} {fz:List Bool}
    (hT:Trip P f (fsh++sh++caps.map fun _=>(false,1)) ds rsh outs aft) (h:o.op=.call c) (hfo:c.callee=.value fo) (hf:calleeC (s0.eval fo)=some (f,fsh,fcs,caps)) (ha:argsC s0 c.args.toList=some (sh,cs))
    (hg:Given R preH (fcs++cs++caps) ds gs) (hgn:gs.flatten.Nodup) (hRK:∀ r∈R,r ∉ gs.flatten) (hA:R≠[]→∀ d∈outs++aft.map (·.2),Owned d)
    (hh:Held st outs nl fz) (hk:Kept st gs.flatten preH (fcs++cs++caps) aft nla) (hnd:(idsOf (objsOf st (nl++nla))).Nodup) (hrt:rsh.total=outs.length) (hrp:∀ p∈rsh,p.1=false→p.2=1) :
    OpS P o st (preOf s0 fo++preOfs s0 c.args.toList) preH (resSV rsh (nl.map (NL.cell st))) (updMany gs.flatten (objsOf st (nl++nla))):=by
  intro w M n U s a W next Q hS hHs hst hdn ⟨I,hW,hU,hr⟩ hn
  subst hW hU
  have hef:=hr.eval fo
  rw [eval_pre fun p hp=>hS p (List.mem_append.2 (.inl hp))] at hef
  obtain ⟨fs,us,gf,gc,e1,e2,e3,k1,k2,k3,q1⟩:=calleeC_ok hef hf
  obtain ⟨⟨ga,e4,k4⟩,k5⟩:=argsC_ok hr c.args.toList ha fun p hp=>hS p (List.mem_append.2 (.inr hp))
  obtain ⟨g,hgv,hgc⟩:∃ g,mkVs (fsh++sh++caps.map fun _=>(false,1)) g=fs.toList++c.args.toList.map a.eval++us.toList∧∀ (t:Nat) (x:C),(fcs++cs++caps)[t]?=some x→Cok I x (g t):=by
    refine ⟨fun t=>if t < fcs.length then gf t else if t < fcs.length+cs.length then ga (t - fcs.length) else gc (t - fcs.length - cs.length),?_,?_⟩
    · rw [mkVs_append,mkVs_append,e2,e3,e4]
      congr 1
      · congr 1
        · exact mkVs_congr _ _ _ fun i hi=>by rw [k3] at hi; rw [if_pos hi]
        · exact mkVs_congr _ _ _ fun i hi=>by rw [k3,if_neg (by omega),if_pos (by omega)]; congr 1; omega
      · exact mkVs_congr _ _ _ fun i hi=>by rw [Sh.total_append,k3,k5,if_neg (by omega),if_neg (by omega)]; congr 1; omega
    · intro t x ht
      rw [List.append_assoc,List.getElem?_append] at ht
      split at ht
      · rename_i h1
        show Cok I x (if t < fcs.length then gf t else _)
        rw [if_pos h1]; exact k1 t x ht
      · rename_i h1
        rw [List.getElem?_append] at ht
        split at ht
        · rename_i h2
          show Cok I x (if t < fcs.length then gf t else if t < fcs.length+cs.length then ga (t - fcs.length) else _)
          rw [if_neg h1,if_pos (by omega)]; exact k4 _ x ht
        · rename_i h2
          show Cok I x (if t < fcs.length then gf t else if t < fcs.length+cs.length then ga (t - fcs.length) else gc (t - fcs.length - cs.length))
          rw [if_neg h1,if_neg (by omega)]; exact k2 _ x ht
  have hargs:(fs++c.args.map a.eval++us)=(mkVs (fsh++sh++caps.map fun _=>(false,1)) g).toArray:=by
    apply Array.ext'
    rw [hgv]; simp
  have hexec:(execOp a.eval o).run P I.W=.ok (.enter f (mkVs (fsh++sh++caps.map fun _=>(false,1)) g).toArray) I.W:=by
    rw [← hargs]
    have:=callFunc_fn hT.fn (fs++c.args.map a.eval++us) I.W
    simp only [execOp,h,resolve,hfo,e1,Deferred.ofValue]
    simpa [invoke] using this
  rw [Oper.wp,hexec,Oper.upon_enter]
  let T:Nat→Nat→Prop:=fun t b=>I.setsOf (gs.getD t []) b
  have hgmem:∀ t r,r∈gs.getD t []→r∈gs.flatten:=by
    intro t r hr'
    rw [List.getD_eq_getElem?_getD] at hr'
    cases hgt:gs[t]? with
    | none=>rw [hgt] at hr'; simp at hr'
    | some l=>rw [hgt] at hr'; exact List.mem_flatten.2 ⟨l,List.mem_of_getElem? hgt,hr'⟩
  have hTs:∀ t b,T t b→I.setsOf gs.flatten b:=fun t b ⟨q,x,h1,h2,h3⟩=>⟨q,x,hgmem t q h1,h2,h3⟩
  have hTlt:∀ t b,T t b→t < ds.length:=by
    rintro t b ⟨q,x,h1,_⟩
    rw [← hg.get.1.2]
    apply Nat.lt_of_not_le
    intro h0
    simp [List.getD_eq_getElem?_getD,List.getElem?_eq_none h0] at h1
  obtain ⟨hlen,hget⟩:=hg.get
  have hcall:=hT.run I.W (I.zone R) g T (fun b hb=>hb.elim (hr.zone b) fun ⟨q,x,_,h2,h3⟩=>(hr.sets q x h2 b h3).1) (hr.laidAt fun b hb=>.inl hb) (fun t d ht=>by
      obtain ⟨c',h1,h2⟩:=hget t d ht
      exact h2 w M n I s a (g t) hr hHs (hgc t c' h1)) (fun t b hb=>by
      have h0:=hb
      obtain ⟨q,x,h1,h2,h3⟩:=hb
      obtain ⟨h4,h5,_⟩:=hr.sets q x h2 b h3
      exact ⟨h4,fun hz=>hz.elim h5 fun ⟨q',x',g1,g2,g3⟩=>hr.disj q q' x x' (fun e=>hRK q' g1 (e ▸ hgmem t q h1)) h2 g2 b h3 g3⟩) (by
      rintro t t' b hne ⟨q,x,h1,h2,h3⟩ ⟨q',x',h1',h2',h3'⟩
      by_cases e:q=q'
      · subst e
        refine hne ?_
        exact flatten_nodup hgn t t' q h1 h1'
      · exact hr.disj q q' x x' e h2 h2' b h3 h3')
  refine hcall.mono fun e W' ⟨hv,Z',S,he,hp⟩=>?_
  subst he
  obtain ⟨hl1,hl2⟩:=hh.len
  have hTT:∀ b,(∃ t,T t b)→I.setsOf gs.flatten b:=fun b ⟨t,hb⟩=>hTs t b hb
  let u:Nat→Value:=fun t=>if t < outs.length then hv t else g (aft.getD (t - outs.length) (0,.v undef)).1
  let F:Nat→Prop:=fun t=>fz[t]?=some true
  let Zj:Nat→Prop:=fun b=>I.Z b∨(R=[]∧Z' b)∨∃ t,F t∧S t b
  have hFlt:∀ t,F t→t < outs.length:=fun t ht=>by have:=(List.getElem?_eq_some_iff.1 ht).1; omega
  have hL:∀ (t:Nat) (x:NL),(nl++nla)[t]?=some x→x.m=st∧(∃ d,(outs++aft.map (·.2))[t]?=some d∧((¬ F t∧x.d=d)∨(F t∧Frz d x.d))) ∧
      (x.k=st∨(x.id∈gs.flatten∧∃ m0 o0,I.H x.id=some (x.k,m0,o0)∧u t=I.hd x.id∧(∀ e sz l',x.d=.sl true e sz l'→∃ l0,o0=.row e sz l0))):=by
    intro t x hx
    rw [List.getElem?_append] at hx
    split at hx
    · rename_i h1
      obtain ⟨g1,g2,d,g3,g4⟩:=hh.get t x hx
      refine ⟨g1,⟨d,by rw [List.getElem?_append,if_pos (by omega)]; exact g3,?_⟩,.inl g2⟩
      rcases g4 with ⟨g4,g5⟩ | ⟨g4,g5⟩
      · exact .inl ⟨fun hF=>by rw [show fz[t]?=some true from hF] at g4; simp at g4,g5⟩
      · exact .inr ⟨g4,g5⟩
    · rename_i h1
      obtain ⟨g1,g2,p,m0,o0,g3,g4,g5,g6⟩:=hk.get _ x hx
      have hI:I.H x.id=some (x.k,m0,o0):=by rw [hr.hH]; exact hHs _ g4
      refine ⟨g1,⟨x.d,?_,.inl ⟨fun hF=>by have:=hFlt t hF; omega,rfl⟩⟩,.inr ⟨g2,m0,o0,hI,?_,g6⟩⟩
      · rw [List.getElem?_append,if_neg (by omega),← hl1]
        simp [g3]
      · have h2:¬ t < outs.length:=by omega
        show (if t < outs.length then hv t else _)=_
        rw [if_neg h2]
        have h3:aft.getD (t - outs.length) (0,.v undef)=(p,x.d):=by rw [← hl1,List.getD_eq_getElem?_getD,g3]; rfl
        rw [h3]
        refine g5 I _ ?_ hI
        have hcell:∃ c',(fcs++cs++caps)[p]?=some c':=by
          cases hk0:(fcs++cs++caps)[p]? with
          | some c'=>exact ⟨c',rfl⟩
          | none =>
            exact absurd hk0 (hk.place _ _ (List.mem_of_getElem? g3))
        obtain ⟨c',hc'⟩:=hcell
        rw [List.getD_eq_getElem?_getD,hc']
        exact hgc p c' hc'
  have hhow:∀ (t:Nat) (x:NL),(nl++nla)[t]?=some x→Ow W' Zj (fun b=>¬ F t∧S t b) x.d (u t):=by
    intro t x hx
    obtain ⟨_,⟨d,h2,h3⟩,_⟩:=hL t x hx
    have h4:=hp.how t d h2
    have h5:∃ Z0:Nat→Prop,(∀ b,Z0 b→Zj b)∧Ow W' Z0 (S t) d (u t):=by
      by_cases hR:R=[]
      · exact ⟨Z',fun b hb=>.inr (.inl ⟨hR,hb⟩),h4⟩
      · exact ⟨fun _=>False,fun _ hb=>hb.elim,hA hR d (List.mem_of_getElem? h2) _ _ _ _ _ h4⟩
    obtain ⟨Z0,h6,h7⟩:=h5
    rcases h3 with ⟨h3,h8⟩ | ⟨h3,h8⟩
    · rw [h8]; exact (h7.zone h6).mono fun b hb=>⟨h3,hb⟩
    · exact .rd _ _ _ ((h8 _ _ _ _ h7).mono fun b hb=>hb.elim (h6 b) fun hb=>.inr (.inr ⟨t,h3,hb⟩))
  obtain ⟨J,hJW,hJU,hJZ,hJ,hJc⟩:=hr.after gs.flatten st hst W' Zj (nl++nla) u (fun t b=>¬ F t∧S t b) (hp.ext.mono hTT) (fun b hb=>.inl hb) (by
      intro b hb
      rcases hb with hb | ⟨hA',hb⟩ | ⟨t,_,hb⟩
      · exact ⟨Nat.lt_of_lt_of_le (hr.zone b hb) hp.ext.size,.inl hb⟩
      · obtain ⟨h1,h2⟩:=hp.zone b hb
        refine ⟨h1,?_⟩
        rcases h2 with h2 | h2 | h2
        · rcases h2 with h2 | h2
          · exact .inl h2
          · rw [hA'] at h2; obtain ⟨q,x,h3,_⟩:=h2; simp at h3
        · exact .inr (.inl (hTT b h2))
        · exact .inr (.inr h2)
      · obtain ⟨h1,_,h2⟩:=hp.sets t b hb
        exact ⟨h1,.inr (h2.imp (hTT b) id)⟩) hhow (by
      rintro t b _ ⟨h1,h2⟩
      obtain ⟨h3,h4,h5⟩:=hp.sets t b h2
      refine ⟨h3,?_,h5.imp (hTT b) id⟩
      rintro (hz | ⟨_,hz⟩ | ⟨t',hF,hz⟩)
      · exact h4 (hp.sub b (.inl hz))
      · exact h4 hz
      · by_cases e:t=t'
        · subst e; exact h1 hF
        · exact hp.sep t t' b e h2 hz) (fun t t' b hne h1 h2=>hp.sep t t' b hne h1.2 h2.2) hnd (fun t x hx=>by
      obtain ⟨h1,_,h3⟩:=hL t x hx
      exact ⟨h1,h3⟩)
  refine hn _ _ ⟨J,hJW,hJU,hJ.putO o.dst hdn ?_⟩
  refine resSV_ok rsh _ hv (by rw [hrt,List.length_map,hl1]) hrp fun t c' ht=>?_
  simp only [List.getElem?_map,Option.map_eq_some_iff] at ht
  obtain ⟨x,ht,rfl⟩:=ht
  have hlt:t < outs.length:=by have:=(List.getElem?_eq_some_iff.1 ht).1; omega
  have:=hJc t x (by rw [List.getElem?_append,if_pos (by omega)]; exact ht)
  have e:u t=hv t:=if_pos hlt
  rwa [e] at this
end Go.Ev

namespace Go.Ev
variable [Lay]

def Reads (R:List Id) (preH:Objs) (c:C) (d:D):Prop :=
  ∀ (w:World) (M:Mz) (n:Nat) (I:In) (s:St) (a:Act) (u:Value),RelI w M n I s a→(∀ p∈preH,s.H p.1=some p.2)→Cok I c u→Rd I.W (I.zone R) d u

section
variable {R:List Id} {preH:Objs}
theorem Reads.gives {c:C} {d:D} (h:Reads R preH c d):Gives R preH c d []:=fun w M n I s a u hr hp hc=>.rd _ _ _ (h w M n I s a u hr hp hc)
theorem Reads.d (x:D):Reads R preH (.d x) x:=fun _ _ _ _ _ _ _ _ _ hc=>by cases hc with | d _ _ h=>exact h.mono fun b hb=>.inl hb
theorem Reads.nil (e sz:Nat):Reads R preH (.d (.v (.slice none 0 0))) (.sl false e sz []):=fun _ _ _ _ _ _ _ _ _ hc=>by
  cases hc with | d _ _ h=>cases h; exact .nil _ _ _ _
theorem zone_of {I:In} {r:Id} {x:Nat × Nat × O} (hx:I.H r=some x) (hK:r∈R) {b:Nat} (hb:I.S r b):I.zone R b:=.inr ⟨r,x,hK,hx,hb⟩
theorem Reads.view {r:Id} {k m:Nat} {o:O} {x:D} (hH:(r,(k,m,o))∈preH) (hK:r∈R):Reads R preH (.view r m x) x:=fun w M n I s a u hr hp hc=>by
  have hx:I.H r=some (k,m,o):=by rw [hr.hH]; exact hp _ hH
  cases hc with | view _ _ _ _ hu h1 h=>exact (h k o hx).mono fun b hb=>hb.elim .inl (zone_of hx hK)
theorem Reads.ref {r:Id} {k m e sz:Nat} {l:List (List D)} {d:D} (hf:Frz (.sl true e sz l) d) (hH:(r,(k,m,.row e sz l))∈preH) (hK:r∈R):Reads R preH (.ref r k) d:=fun w M n I s a u hr hp hc=>by
  have hx:I.H r=some (k,m,.row e sz l):=by rw [hr.hH]; exact hp _ hH
  cases hc with
  | ref _ _ _ hu h1 h =>
    have h2:Ow I.W I.Z (I.S r) (.sl true e sz l) (I.hd r):=(hr.objs r k m _ hx).2.2
    rw [← h m _ hx] at h2
    exact (hf _ _ _ _ h2).mono fun b hb=>hb.elim .inl (zone_of hx hK)
theorem Reads.clo {f:FuncId} {first:List (Bool × List C)} {caps:List C} {first':List (Bool × List D)} {caps':List D} (hl:first.map (fun x=>(x.1,x.2.length))=first'.map (fun x=>(x.1,x.2.length))) (hc:caps.length=caps'.length)
    (h1:∀ (i:Nat) (x:Bool × List C) (y:Bool × List D) (j:Nat) (c:C) (d:D),first[i]?=some x→first'[i]?=some y→x.2[j]?=some c→y.2[j]?=some d→Reads R preH c d)
    (h2:∀ (i:Nat) (c:C) (d:D),caps[i]?=some c→caps'[i]?=some d→Reads R preH c d):Reads R preH (.clo f first caps) (.fn f first' caps'):=fun w M n I s a u hr hp hcl=>by
  cases hcl with
  | clo _ _ _ fs us hs fv hf hfv hrf hcc =>
    have hlen:first.length=first'.length:=by have:=congrArg List.length hl; simpa using this
    have hex:∀ (i:Nat) (y:Bool × List D),first'[i]?=some y→∃ x,first[i]?=some x∧x.1=y.1∧x.2.length=y.2.length:=by
      intro i y hy
      have hi:i < first.length:=by rw [hlen]; exact (List.getElem?_eq_some_iff.1 hy).1
      refine ⟨first[i],List.getElem?_eq_getElem hi,?_⟩
      have:=congrArg (fun l=>l[i]?) hl
      simp only [List.getElem?_map,List.getElem?_eq_getElem hi,hy,Option.map_some,Option.some.injEq,Prod.mk.injEq] at this
      exact this
    refine .fn f first' caps' fs us (hs.trans hc) fv (hf.trans hlen) ?_ ?_ ?_
    · intro i y hy
      obtain ⟨x,hx,e1,e2⟩:=hex i y hy
      obtain ⟨g1,g2⟩:=hfv i x hx
      rw [← e1,← e2]; exact ⟨g1,g2⟩
    · intro i y j d hy hd
      obtain ⟨x,hx,e1,e2⟩:=hex i y hy
      have hj:j < x.2.length:=by rw [e2]; exact (List.getElem?_eq_some_iff.1 hd).1
      exact h1 i x y j x.2[j] d hx hy (List.getElem?_eq_getElem hj) hd w M n I s a _ hr hp (hrf i x j _ hx (List.getElem?_eq_getElem hj))
    · intro i d hd
      have hi:i < caps.length:=by rw [hc]; exact (List.getElem?_eq_some_iff.1 hd).1
      exact h2 i caps[i] d (List.getElem?_eq_getElem hi) hd w M n I s a _ hr hp (hcc i _ (List.getElem?_eq_getElem hi))

theorem Gives.nil (m:Bool) (e sz:Nat):Gives R preH (.d (.v (.slice none 0 0))) (.sl m e sz []) []:=fun w M n I s a u hr hp hc=>by
  cases hc with
  | d _ _ h =>
    cases h
    cases m with
    | false=>exact .rd _ _ _ (.nil _ _ _ _)
    | true=>exact .nil _ _ _ _ _
theorem Gives.ref {r:Id} {k m e sz:Nat} {l:List (List D)} (hH:(r,(k,m,.row e sz l))∈preH):Gives R preH (.ref r k) (.sl true e sz l) [r]:=fun w M n I s a u hr hp hc=>by
  have hx:I.H r=some (k,m,.row e sz l):=by rw [hr.hH]; exact hp _ hH
  cases hc with
  | ref _ _ _ hu h1 h =>
    have h2:Ow I.W I.Z (I.S r) (.sl true e sz l) (I.hd r):=(hr.objs r k m _ hx).2.2
    rw [← h m _ hx] at h2
    exact (h2.zone fun b hb=>.inl hb).mono fun b hb=>⟨r,_,by simp,hx,hb⟩
theorem Gives.ptr {r:Id} {k m:Nat} {cells:List C} {ds:List D} {gs:List (List Id)} (hH:(r,(k,m,.box cells))∈preH) (hg:Given R preH cells ds gs) (hn:(r::gs.flatten).Nodup) :
    Gives R preH (.ptr r k 0) (.pt true ds) (r::gs.flatten):=fun w M n I s a u hr hp hc=>by
  have hx:I.H r=some (k,m,.box cells):=by rw [hr.hH]; exact hp _ hH
  cases hc with
  | ptr _ _ _ g hu h =>
    obtain ⟨g',us,t,h1,h2,h3,h4,h5⟩:=(hr.objs r k m _ hx).2.2
    have e:=(h m _ hx).symm.trans h1
    simp only [Value.pointer.injEq,Option.some.injEq,Addr.mk.injEq,and_true] at e
    subst e
    obtain ⟨hn1,hn2⟩:=List.nodup_cons.1 hn
    obtain ⟨⟨hl1,hl2⟩,hget⟩:=hg.get
    have hmem:∀ i q,q∈gs.getD i []→q∈gs.flatten:=by
      intro i q hq
      rw [List.getD_eq_getElem?_getD] at hq
      cases hgt:gs[i]? with
      | none=>rw [hgt] at hq; simp at hq
      | some l=>rw [hgt] at hq; exact List.mem_flatten.2 ⟨l,List.mem_of_getElem? hgt,hq⟩
    refine .pt _ ds g us t (fun i b=>I.setsOf (gs.getD i []) b) h3 (h4.trans hl1) ⟨r,_,by simp,hx,h2⟩ ?_ ?_ ?_
    · rintro i b ⟨q,x,h6,h7,h8⟩
      refine ⟨⟨q,x,List.mem_cons_of_mem _ (hmem i q h6),h7,h8⟩,fun e=>?_⟩
      subst e
      exact hr.disj q r x _ (fun e=>hn1 (e ▸ hmem i q h6)) h7 hx _ h8 h2
    · rintro i i' b ⟨q,x,h6,h7,h8⟩ ⟨q',x',h6',h7',h8'⟩
      by_cases e:q=q'
      · subst e; exact flatten_nodup hn2 i i' q h6 h6'
      · exact absurd h8' (hr.disj q q' x x' e h7 h7' b h8)
    · intro i d hd
      obtain ⟨c',h6,h7⟩:=hget i d hd
      exact h7 w M n I s a _ hr hp (h5 i c' h6)
end

/-! ### what may be frozen -/
theorem Frz.v (x:Value):Frz (.v x) (.v x):=fun W Z S u h=>by cases h with | rd _ _ _ h=>exact h.mono fun b hb=>.inl hb
theorem Frz.erase (d:D):Frz d d.erase:=fun _ _ _ _ h=>h.read
theorem Frz.of_erase {d d':D} (h:d.erase=d'):Frz d d':=h ▸ Frz.erase d
theorem Owned.v (x:Value):Owned (.v x):=fun W Z Z' S u h=>by cases h with | rd _ _ _ h=>cases h with | v _ h1=>exact .rd _ _ _ (.v _ h1)
theorem Owned.sl (e sz:Nat) {l:List (List D)} (hl:∀ el∈l,∀ d∈el,Owned d):Owned (.sl true e sz l):=fun W Z Z' S u h=>by
  cases h with
  | rd _ _ _ h=>cases h
  | sl _ _ _ _ _ cells T val hrow hmax hS hT hdis hlen hcell how =>
    exact .sl S e sz l u cells T val hrow hmax hS hT hdis hlen hcell fun j el i c hj hi=>hl el (List.mem_of_getElem? hj) c (List.mem_of_getElem? hi) _ _ _ _ _ (how j el i c hj hi)
theorem Owned.pt {l:List D} (hl:∀ d∈l,Owned d):Owned (.pt true l):=fun W Z Z' S u h=>by
  cases h with
  | rd _ _ _ h=>cases h
  | pt _ _ g us t T hblk hs hg hT hdis how=>exact .pt S l g us t T hblk hs hg hT hdis fun i c hi=>hl c (List.mem_of_getElem? hi) _ _ _ _ _ (how i c hi)
end Go.Ev

namespace Go.Ev
variable [Lay]

structure Sp where
  k:Nat
  preS:List (Nat × SV)
  preH:Objs
  out:SV
  upd:List (Id × Option (Nat × Nat × O))
  dst:Option Nat

def Sp.apply (x:Sp) (s:St):St:=(s.upds x.upd).putO x.dst x.out
def Sp.pre (x:Sp) (s:St):Prop:=(∀ p∈x.preS,s.slots p.1=p.2)∧∀ p∈x.preH,s.H p.1=some p.2

def OpG (P:Program) (n:Nat) (ops:Array Oper) (o:Oper) (x:Sp):Prop :=
  ∀ (w:World) (M:Mz) (U:Nat→Prop) (s:St) (a:Act) (W:World) (next:Act→World→Prop) (Q:Exit→Act→World→Prop),
    x.pre s→¬ U x.k→Rel w M n U s a W→(∀ a' W',Rel w M n (fun m=>U m∨m=x.k) (x.apply s) a' W'→next a' W') →
    if Region.wanted o (yielded ops a.tmps) then o.wp P a W next Q else next (a.put o.dst undef) W

inductive Runs (P:Program) (n:Nat) (ops:Array Oper):List Oper→Nat→St→List Sp→St→Prop where
  | nil (k:Nat) (s:St):Runs P n ops [] k s [] s
  | cons {o:Oper} {l:List Oper} {k:Nat} {s s':St} {x:Sp} {xs:List Sp} (h:OpG P n ops o x) (hk:x.k=k) (hp:x.pre s) (t:Runs P n ops l (k+1) (x.apply s) xs s'):Runs P n ops (o::l) k s (x::xs) s'

def dstB (o:Oper) (n:Nat):Bool:=match o.dst with | some d=>decide (d < n) | none=>true
theorem dstB_ok {o:Oper} {n:Nat} (h:dstB o n=true):∀ d,o.dst=some d→d < n:=by
  intro d hd
  simpa [dstB,hd] using h

section
variable {P:Program} {n:Nat} {ops:Array Oper}

theorem OpG.of {o:Oper} {k:Nat} {preS:List (Nat × SV)} {preH:Objs} {out:SV} {upd:List (Id × Option (Nat × Nat × O))} (hg:o.guard=none) (hd:dstB o n=true) (h:OpS P o k preS preH out upd):OpG P n ops o ⟨k,preS,preH,out,upd,o.dst⟩:=by
  intro w M U s a W next Q hp hk hr hn
  have:Region.wanted o (yielded ops a.tmps)=true:=by simp [Region.wanted,hg]
  rw [if_pos this]
  exact h w M n U s a W next Q hp.1 hp.2 hk (dstB_ok hd) hr hn

theorem yielded_of {w:World} {M:Mz} {I:In} {s:St} {a:Act} (hr:RelI w M n I s a) {j d:Nat} {og:Oper} {v:Value} (hj:ops[j]?=some og) (hd:og.dst=some d) (hdn:d < n) (hs:s.slots d=.one (.d (.v v))) :
    yielded ops a.tmps j=match v with | .bool b=>some b | _=>none:=by
  have h1:=hr.slots d
  rw [hs] at h1
  have h2:=SV.plain_ok (s:=.one (.d (.v v))) (x:=v) rfl h1
  have h3:a.tmps[d]?=some v:=by
    have hlt:d < a.tmps.size:=by rw [hr.size]; exact hdn
    simp only [Array.getD,hlt,dif_pos] at h2
    rw [Array.getElem?_eq_getElem hlt]; exact congrArg some h2
  simp only [yielded,hj,Option.bind_some,hd,h3]
  cases v<;>rfl
theorem yielded_tup {w:World} {M:Mz} {I:In} {s:St} {a:Act} (hr:RelI w M n I s a) {j d:Nat} {og:Oper} {l:List SV} (hj:ops[j]?=some og) (hd:og.dst=some d) (hs:s.slots d=.tup l):yielded ops a.tmps j=none:=by
  have h1:=hr.slots d
  rw [hs] at h1
  generalize hu:a.tmps.getD d undef=u at h1
  cases h1 with
  | tup _ us _ _ =>
    simp only [yielded,hj,Option.bind_some,hd]
    by_cases hlt:d < a.tmps.size
    · simp only [Array.getD,hlt,dif_pos] at hu
      rw [Array.getElem?_eq_getElem hlt]
      have:a.tmps[d]=.tuple us:=hu
      rw [this]
    · rw [Array.getElem?_eq_none (by omega)]

theorem OpG.on {o og:Oper} {k:Nat} {preS:List (Nat × SV)} {preH:Objs} {out:SV} {upd:List (Id × Option (Nat × Nat × O))} {j d:Nat} {b:Bool} (hg:o.guard=some (j,b)) (hj:ops[j]?=some og) (hgd:og.dst=some d) (hdn:d < n) (hd:dstB o n=true)
    (h:OpS P o k preS preH out upd):OpG P n ops o ⟨k,(d,.one (.d (.v (.bool b))))::preS,preH,out,upd,o.dst⟩:=by
  intro w M U s a W next Q hp hk hr hnx
  have hr0:=hr
  obtain ⟨I,_,_,hI⟩:=hr0
  have h1:=yielded_of hI hj hgd hdn (hp.1 (d,.one (.d (.v (.bool b)))) (by simp))
  have:Region.wanted o (yielded ops a.tmps)=true:=by simp [Region.wanted,hg,h1]
  rw [if_pos this]
  exact h w M n U s a W next Q (fun p hp'=>hp.1 p (by simp [hp'])) hp.2 hk (dstB_ok hd) hr hnx

theorem OpG.skip {o:Oper} {k:Nat} {x:Nat × SV} (hd:dstB o n=true) (h:∀ (w:World) (M:Mz) (I:In) (s:St) (a:Act),s.slots x.1=x.2→RelI w M n I s a→Region.wanted o (yielded ops a.tmps)=false) :
    OpG P n ops o ⟨k,[x],[],.tup [],[],o.dst⟩:=by
  intro w M U s a W next Q hp hk hr hnx
  obtain ⟨I,hW,hU,hI⟩:=hr
  have h1:=h w M I s a (hp.1 x (by simp)) hI
  rw [if_neg (by simp [h1])]
  refine hnx _ _ ⟨{ I with U:=fun m=>U m∨m=k },hW,rfl,?_⟩
  exact (hI.putO o.dst (dstB_ok hd) (v:=.tup []) (u:=undef) (.tup [] #[] rfl (by simp))).used fun m hm=>.inl (hU ▸ hm)
theorem OpG.off {o og:Oper} {k:Nat} {j d:Nat} {b:Bool} (hg:o.guard=some (j,b)) (hj:ops[j]?=some og) (hgd:og.dst=some d) (hdn:d < n) (hd:dstB o n=true):OpG P n ops o ⟨k,[(d,.one (.d (.v (.bool !b))))],[],.tup [],[],o.dst⟩ :=
  .skip hd fun w M I s a hs hI=>by
    have h1:=yielded_of hI hj hgd hdn hs
    simp [Region.wanted,hg,h1]
theorem OpG.off' {o og:Oper} {k:Nat} {j d:Nat} {b:Bool} {l:List SV} (hg:o.guard=some (j,b)) (hj:ops[j]?=some og) (hgd:og.dst=some d) (hd:dstB o n=true):OpG P n ops o ⟨k,[(d,.tup l)],[],.tup [],[],o.dst⟩ :=
  .skip hd fun w M I s a hs hI=>by
    have h1:=yielded_tup hI hj hgd hs
    simp [Region.wanted,hg,h1]

/-! ### what a step writes -/
def Sp.wS (x:Sp) (i:Nat):Option SV:=match x.dst with | some d=>if i=d then some x.out else none | none=>none
def lastUpd:List (Id × Option (Nat × Nat × O))→Id→Option (Option (Nat × Nat × O))
  | [],_=>none
  | p::l,q=>match lastUpd l q with
    | some y=>some y
    | none=>if q=p.1 then some p.2 else none
theorem upds_H:∀ (l:List (Id × Option (Nat × Nat × O))) (s:St) (q:Id),(s.upds l).H q=(lastUpd l q).getD (s.H q)
  | [],_,_=>rfl
  | p::l,s,q=>by
    rw [St.upds,upds_H l,lastUpd]
    cases lastUpd l q with
    | some y=>rfl
    | none =>
      by_cases e:q=p.1
      · simp [St.obj,e]
      · simp [St.obj,e]
theorem lastUpd_none {l:List (Id × Option (Nat × Nat × O))} {q:Id} (h:q ∉ l.map (·.1)):lastUpd l q=none:=by
  induction l with
  | nil=>rfl
  | cons p l ih =>
    simp only [List.map_cons,List.mem_cons,not_or] at h
    rw [lastUpd,ih h.2]; simp [h.1]
theorem apply_slots (x:Sp) (s:St) (i:Nat):(x.apply s).slots i=(x.wS i).getD (s.slots i):=by
  unfold Sp.apply Sp.wS St.putO
  cases x.dst with
  | none=>simp [upds_slots]
  | some d =>
    by_cases e:i=d
    · simp [St.put,e]
    · simp [St.put,e,upds_slots]
theorem apply_H (x:Sp) (s:St) (q:Id):(x.apply s).H q=(lastUpd x.upd q).getD (s.H q):=by
  unfold Sp.apply St.putO
  cases x.dst with
  | none=>exact upds_H _ _ _
  | some d=>exact upds_H _ _ _

def sig (sp:Nat→Sp) (L:Nat→Bool) (s:St):Nat→St
  | 0=>s
  | m+1=>if L m then (sp m).apply (sig sp L s m) else sig sp L s m

def last {β:Type} (v:Nat→Option β) (L:Nat→Bool) (b:β):Nat→β
  | 0=>b
  | m+1=>if L m then (v m).getD (last v L b m) else last v L b m
theorem sig_slots (sp:Nat→Sp) (L:Nat→Bool) (s:St) (i:Nat):∀ m,(sig sp L s m).slots i=last (fun j=>(sp j).wS i) L (s.slots i) m
  | 0=>rfl
  | m+1=>by
    simp only [sig,last]
    split
    · rw [apply_slots,sig_slots sp L s i m]
    · exact sig_slots sp L s i m
theorem sig_H (sp:Nat→Sp) (L:Nat→Bool) (s:St) (q:Id):∀ m,(sig sp L s m).H q=last (fun j=>lastUpd (sp j).upd q) L (s.H q) m
  | 0=>rfl
  | m+1=>by
    simp only [sig,last]
    split
    · rw [apply_H,sig_H sp L s q m]
    · exact sig_H sp L s q m

theorem last_agree {β:Type} {v:Nat→Option β} {L L':Nat→Bool} {b:β}:∀ m,(∀ i,i < m→v i≠none→L i=L' i)→last v L b m=last v L' b m
  | 0,_=>rfl
  | m+1,h=>by
    have ih:=last_agree (v:=v) (L:=L) (L':=L') (b:=b) m fun i hi=>h i (by omega)
    simp only [last]
    cases hv:v m with
    | none=>simp [ih]
    | some y=>rw [h m (by omega) (by simp [hv])]; simp [ih]
theorem last_stop {β:Type} {v:Nat→Option β} {L:Nat→Bool} {b:β} (j:Nat):∀ m,j≤m→(∀ i,j≤i→i < m→L i=true→v i=none)→last v L b m=last v L b j
  | 0, h, _ => by have : j = 0 := by omega
                  subst this; rfl
  | m+1,h,hw=>by
    by_cases e:j=m+1
    · rw [e]
    · simp only [last]
      have ih:=last_stop (v:=v) (L:=L) (b:=b) j m (by omega) fun i h1 h2=>hw i h1 (by omega)
      split
      · rename_i hL
        rw [hw m (by omega) (by omega) hL]; exact ih
      · exact ih
theorem last_read {β:Type} {v:Nat→Option β} {L:Nat→Bool} {b:β} {j m:Nat} (hj:j < m) (hLj:L j=false) (h1:∀ i,i < j→v i≠none→L i=true) (h2:∀ i,j < i→i < m→L i=true→v i=none) :
    last v L b m=last v (fun _=>true) b j:=by
  rw [last_stop j m (by omega) fun i h3 h4 h5=>by
    by_cases e:i=j
    · subst e; rw [hLj] at h5; simp at h5
    · exact h2 i (by omega) h4 h5]
  exact last_agree j fun i hi hv=>h1 i hi hv
theorem last_done {β:Type} {v:Nat→Option β} {L:Nat→Bool} {b:β} {j m:Nat} (hj:j < m) (h2:v j≠none→∀ i,j < i→i < m→L i=true→v i=none) :
    last v (fun i=>L i||i == j) b m=(v j).getD (last v L b m):=by
  cases hv:v j with
  | none =>
    refine last_agree m fun i hi hvi=>?_
    have:i≠j:=fun e=>hvi (e ▸ hv)
    simp [this]
  | some y =>
    rw [last_stop (j+1) m (by omega) fun i h3 h4 h5=>by
      have:i≠j:=by omega
      simp only [beq_iff_eq,this,Bool.or_eq_true,or_false] at h5
      exact h2 (by simp [hv]) i (by omega) h4 h5]
    simp [last,hv]
end
end Go.Ev

namespace Go.Ev
variable [Lay]

structure FP where
  rs:List Nat
  d:Option Nat
  rh:List Id
  wh:List Id
def Sp.fp (x:Sp):FP:=⟨x.preS.map (·.1),x.dst,x.preH.map (·.1),x.upd.map (·.1)⟩
def conf (x y:FP):Bool :=
  (match x.d with | some d=>y.rs.contains d||y.d == some d | none=>false)||(match y.d with | some d=>x.rs.contains d | none=>false) ||
    x.wh.any (fun q=>y.rh.contains q||y.wh.contains q)||y.wh.any (fun q=>x.rh.contains q)
def afters (ops:List Oper):List (List Nat):=ops.map fun o=>(o.after.toList.filter (Region.binds .any)).map (·.on)
def ancB (af:List (List Nat)):Nat→Nat→Nat→Bool
  | 0,_,_=>false
  | f+1,j,i=>(af.getD j []).contains i||(af.getD j []).any fun m=>ancB af f m i
def FP.none:FP:=⟨[],.none,[],[]⟩
def orderB (af:List (List Nat)) (fps:List FP):Bool :=
  (List.range fps.length).all fun j=>(af.getD j []).all (fun i=>decide (i < j))&&(List.range j).all fun i=>!(conf (fps.getD i .none) (fps.getD j .none))||ancB af fps.length j i

def Sp.none:Sp:=⟨0,[],[],.bad,[],.none⟩

theorem anc_listed {af:List (List Nat)} {L:Nat→Bool} (hc:∀ j i,L j=true→i∈af.getD j []→L i=true):∀ f j i,ancB af f j i=true→(∀ m,m∈af.getD j []→L m=true)→L i=true
  | 0,_,_,h,_=>by simp [ancB] at h
  | f+1,j,i,h,hj=>by
    simp only [ancB,Bool.or_eq_true,List.contains_iff_mem,List.any_eq_true] at h
    rcases h with h | ⟨m,h1,h2⟩
    · exact hj i h
    · exact anc_listed hc f m i h2 fun m' hm'=>hc m m' (hj m h1) hm'

theorem conf_slot {x y:Sp} {i:Nat} (h:x.wS i≠.none) (hy:i∈y.preS.map (·.1)):conf x.fp y.fp=true∧conf y.fp x.fp=true:=by
  have hd:x.dst=some i:=by
    unfold Sp.wS at h
    cases hx:x.dst with
    | none=>simp [hx] at h
    | some d =>
      simp only [hx] at h
      split at h
      · rename_i e; rw [e]
      · simp at h
  have h1:y.fp.rs.contains i=true:=by simpa [Sp.fp,List.contains_iff_mem] using hy
  have h2:x.fp.d=some i:=hd
  constructor<;>simp only [conf,h2,h1]<;>simp
theorem conf_slots {x y:Sp} {i:Nat} (h:x.wS i≠.none) (h':y.wS i≠.none):conf x.fp y.fp=true:=by
  have key:∀ x:Sp,x.wS i≠.none→x.fp.d=some i:=by
    intro x h
    unfold Sp.wS at h
    cases hx:x.dst with
    | none=>simp [hx] at h
    | some d =>
      simp only [hx] at h
      split at h
      · rename_i e; show x.dst=_; rw [hx,e]
      · simp at h
  simp [conf,key x h,key y h']
theorem mem_lastUpd {l:List (Id × Option (Nat × Nat × O))} {q:Id} (h:lastUpd l q≠.none):q∈l.map (·.1):=by
  by_cases hq:q∈l.map (·.1)
  · exact hq
  · exact absurd (lastUpd_none hq) h
theorem conf_obj {x y:Sp} {q:Id} (h:lastUpd x.upd q≠.none) (hy:q∈y.preH.map (·.1)):conf x.fp y.fp=true∧conf y.fp x.fp=true:=by
  have h1:q∈x.fp.wh:=mem_lastUpd h
  have h2:y.fp.rh.contains q=true:=by simpa [Sp.fp,List.contains_iff_mem] using hy
  constructor
  · simp only [conf,Bool.or_eq_true,List.any_eq_true]
    exact .inl (.inr ⟨q,h1,.inl h2⟩)
  · simp only [conf,Bool.or_eq_true,List.any_eq_true]
    exact .inr ⟨q,h1,h2⟩
theorem conf_objs {x y:Sp} {q:Id} (h:lastUpd x.upd q≠.none) (h':lastUpd y.upd q≠.none):conf x.fp y.fp=true:=by
  simp only [conf,Bool.or_eq_true,List.any_eq_true]
  exact .inl (.inr ⟨q,mem_lastUpd h,.inr (by rw [List.contains_iff_mem]; exact mem_lastUpd h')⟩)

theorem St.ext {s s':St} (h1:∀ i,s.slots i=s'.slots i) (h2:∀ q,s.H q=s'.H q):s=s':=by
  cases s; cases s'
  simp only [St.mk.injEq]
  exact ⟨funext h1,funext h2⟩

theorem Rel.used {w:World} {M:Mz} {n:Nat} {U U':Nat→Prop} {s:St} {a:Act} {W:World} (h:Rel w M n U s a W) (hu:∀ m,U m→U' m):Rel w M n U' s a W:=by
  obtain ⟨I,h1,h2,h3⟩:=h
  exact ⟨{ I with U:=U' },h1,rfl,h3.used fun m hm=>hu m (h2 ▸ hm)⟩

section
variable {P:Program} {n:Nat} {ops:Array Oper} {w:World} {M:Mz} {U:Nat→Prop} {Q:Exit→Act→World→Prop}

theorem wpAny_draw {sp:Nat→Sp} {s0:St} {k N:Nat} {af:List (List Nat)} (hN:ops.size=N) (haf:∀ (j:Nat) (o:Oper),ops[j]?=some o→af.getD j []=(o.after.toList.filter (Region.binds .any)).map (·.on))
    (hop:∀ (j:Nat) (o:Oper),ops[j]?=some o→OpG P n ops o (sp j)∧(sp j).k=k+j∧(sp j).pre (sig sp (fun _=>true) s0 j)) (hlt:∀ j i,j < N→i∈af.getD j []→i < j)
    (hord:∀ i j,i < j→j < N→conf (sp i).fp (sp j).fp=true→∃ f,ancB af f j i=true) (hU:∀ m,k≤m→¬ U m)
    (hQ:∀ a W,Rel w M n (fun m=>U m∨(k≤m∧m < k+N)) (sig sp (fun _=>true) s0 N) a W→Q .normal a W) :
    ∀ (fuel:Nat) (listed:Array Bool) (a:Act) (W:World) (un:List Nat),listed.size=N→(∀ j i,j < N→listed.getD j false=true→i∈af.getD j []→listed.getD i false=true) →
      un.length≤fuel→(∀ i,i < N→listed.getD i false=false→i∈un)→Rel w M n (fun m=>U m∨∃ i,i < N∧listed.getD i false=true∧m=k+i) (sig sp (fun i=>listed.getD i false) s0 N) a W→wpAny P .any ops Q fuel listed a W:=by
  have hdone:∀ (listed:Array Bool) (a:Act) (W:World),listed.size=N→(∀ i,i < N→listed.getD i false=true)→Rel w M n (fun m=>U m∨∃ i,i < N∧listed.getD i false=true∧m=k+i) (sig sp (fun i=>listed.getD i false) s0 N) a W→Q .normal a W:=by
    intro listed a W hs hall hr
    have e:sig sp (fun i=>listed.getD i false) s0 N=sig sp (fun _=>true) s0 N:=by
      refine St.ext (fun i=>?_) fun q=>?_
      · rw [sig_slots,sig_slots]; exact last_agree N fun i hi _=>hall i hi
      · rw [sig_H,sig_H]; exact last_agree N fun i hi _=>hall i hi
    rw [e] at hr
    exact hQ a W (hr.used fun m hm=>hm.imp id fun ⟨i,h1,_,h2⟩=>by omega)
  have hempty:∀ (listed:Array Bool),listed.size=N→Region.ready .any ops listed=[]→∀ i,i < N→listed.getD i false=true:=by
    intro listed hs hr i
    induction i using Nat.strongRecOn with
    | _ i ih =>
      intro hi
      by_cases hl:listed.getD i false=true
      · exact hl
      · exfalso
        have hin:i∈Region.ready .any ops listed:=by
          rw [mem_ready]
          have hil:i < listed.size:=by omega
          have hio:i < ops.size:=by omega
          refine ⟨?_,ops[i],by simp [hio],fun e he hb=>?_⟩
          · simp only [Array.getD,hil,dif_pos] at hl ⊢
            simpa using hl
          · have hmem:e.on∈af.getD i []:=by
              rw [haf i ops[i] (by simp [hio])]
              exact List.mem_map.2 ⟨e,List.mem_filter.2 ⟨by simpa using he,hb⟩,rfl⟩
            have:=hlt i e.on hi hmem
            exact ih e.on this (by omega)
        rw [hr] at hin; simp at hin
  intro fuel
  induction fuel with
  | zero =>
    intro listed a W un hs hc hu hun hr
    have hall:∀ i,i < N→listed.getD i false=true:=by
      intro i hi
      cases hl:listed.getD i false with
      | true=>rfl
      | false=>have:=hun i hi hl; have:un=[]:=List.eq_nil_of_length_eq_zero (by omega); simp_all
    refine ⟨?_,hdone listed a W hs hall hr⟩
    apply List.eq_nil_iff_forall_not_mem.2
    intro i hi
    obtain ⟨h1,o,h2,_⟩:=mem_ready.1 hi
    have hil:i < N:=by rw [← hN]; exact (Array.getElem?_eq_some_iff.1 h2).1
    have:=hall i hil
    have hil':i < listed.size:=by omega
    simp only [Array.getD,hil',dif_pos] at h1 this
    rw [h1] at this; simp at this
  | succ fuel ih =>
    intro listed a W un hs hc hu hun hr
    refine ⟨fun h0=>hdone listed a W hs (hempty listed hs h0) hr,fun j hj=>?_⟩
    obtain ⟨h1,o,h2,h3⟩:=mem_ready.1 hj
    have hjN:j < N:=by rw [← hN]; exact (Array.getElem?_eq_some_iff.1 h2).1
    have hjl:j < listed.size:=by omega
    have hLj:listed.getD j false=false:=by simpa [Array.getD,hjl] using h1
    have hdir:∀ m,m∈af.getD j []→listed.getD m false=true:=by
      intro m hm
      rw [haf j o h2] at hm
      obtain ⟨e,he,rfl⟩:=List.mem_map.1 hm
      obtain ⟨he1,he2⟩:=List.mem_filter.1 he
      exact h3 e (by simpa using he1) he2
    have hc':∀ j i,listed.getD j false=true→i∈af.getD j []→listed.getD i false=true:=by
      intro j' i hL
      have:j' < N:=by
        apply Nat.lt_of_not_le
        intro h0
        simp [Array.getD,show ¬ j' < listed.size by omega] at hL
      exact hc j' i this hL
    have hbefore:∀ i,i < j→conf (sp i).fp (sp j).fp=true→listed.getD i false=true:=by
      intro i hi hcf
      obtain ⟨f,hf⟩:=hord i j hi hjN hcf
      exact anc_listed (L:=fun i=>listed.getD i false) hc' f j i hf hdir
    have hafter:∀ i,j < i→i < N→listed.getD i false=true→conf (sp j).fp (sp i).fp=true→False:=by
      intro i hi hiN hL hcf
      obtain ⟨f,hf⟩:=hord j i hi hiN hcf
      have:=anc_listed (L:=fun i=>listed.getD i false) hc' f i j hf fun m hm=>hc' i m hL hm
      rw [hLj] at this; simp at this
    obtain ⟨g1,g2,g3⟩:=hop j o h2
    have hpre:(sp j).pre (sig sp (fun i=>listed.getD i false) s0 N):=by
      constructor
      · intro p hp
        rw [← g3.1 p hp,sig_slots,sig_slots]
        have hm:p.1∈(sp j).preS.map (·.1):=List.mem_map.2 ⟨p,hp,rfl⟩
        refine last_read hjN hLj (fun i hi hv=>hbefore i hi (conf_slot hv hm).1) fun i hi hiN hL=>?_
        cases hv:(sp i).wS p.1 with
        | none=>rfl
        | some y=>exact (hafter i hi hiN hL (conf_slot (x:=sp i) (by simp [hv]) hm).2).elim
      · intro p hp
        rw [← g3.2 p hp,sig_H,sig_H]
        have hm:p.1∈(sp j).preH.map (·.1):=List.mem_map.2 ⟨p,hp,rfl⟩
        refine last_read hjN hLj (fun i hi hv=>hbefore i hi (conf_obj hv hm).1) fun i hi hiN hL=>?_
        cases hv:lastUpd (sp i).upd p.1 with
        | none=>rfl
        | some y=>exact (hafter i hi hiN hL (conf_obj (x:=sp i) (by simp [hv]) hm).2).elim
    have hset:∀ i,(listed.setIfInBounds j true).getD i false=(listed.getD i false||i == j):=by
      intro i
      by_cases e:i=j
      · subst e; simp [Array.getD,hjl]
      · rw [getD_set_ne false (Ne.symm e)]; simp [e]
    have happly:(sp j).apply (sig sp (fun i=>listed.getD i false) s0 N)=sig sp (fun i=>(listed.setIfInBounds j true).getD i false) s0 N:=by
      have e:(fun i=>(listed.setIfInBounds j true).getD i false)=fun i=>(listed.getD i false||i == j):=funext hset
      rw [e]
      refine St.ext (fun i=>?_) fun q=>?_
      · rw [apply_slots,sig_slots,sig_slots]
        refine (last_done (v:=fun j=>(sp j).wS i) (L:=fun i=>listed.getD i false) hjN fun hv i' hi' hiN hL=>?_).symm
        cases hv':(sp i').wS i with
        | none=>rfl
        | some y=>exact (hafter i' hi' hiN hL (conf_slots (i:=i) hv (by rw [hv']; simp))).elim
      · rw [apply_H,sig_H,sig_H]
        refine (last_done (v:=fun j=>lastUpd (sp j).upd q) (L:=fun i=>listed.getD i false) hjN fun hv i' hi' hiN hL=>?_).symm
        cases hv':lastUpd (sp i').upd q with
        | none=>rfl
        | some y=>exact (hafter i' hi' hiN hL (conf_objs (q:=q) hv (by rw [hv']; simp))).elim
    have hfresh:¬ (U (sp j).k∨∃ i,i < N∧listed.getD i false=true∧(sp j).k=k+i):=by
      rw [g2]
      rintro (h | ⟨i,_,hL,e⟩)
      · exact hU _ (by omega) h
      · have:i=j:=by omega
        subst this; rw [hLj] at hL; simp at hL
    have hgo:=g1 w M (fun m=>U m∨∃ i,i < N∧listed.getD i false=true∧m=k+i) _ a W (wpAny P .any ops Q fuel (listed.setIfInBounds j true)) Q hpre hfresh hr fun a' W' hr'=>by
      rw [happly] at hr'
      refine ih (listed.setIfInBounds j true) a' W' (un.erase j) (by simpa using hs) ?_ ?_ ?_ (hr'.used ?_)
      · intro j' i hj' hL hi
        rw [hset] at hL ⊢
        simp only [Bool.or_eq_true,beq_iff_eq] at hL ⊢
        rcases hL with hL | hL
        · exact .inl (hc' j' i hL hi)
        · subst hL; exact .inl (hdir i hi)
      · have:=hun j hjN hLj
        rw [List.length_erase_of_mem this]; omega
      · intro i hi hL
        rw [hset] at hL
        simp only [Bool.or_eq_false_iff,beq_eq_false_iff_ne] at hL
        exact (List.mem_erase_of_ne hL.2).2 (hun i hi hL.1)
      · rintro m ((h | ⟨i,h4,h5,h6⟩) | h)
        · exact .inl h
        · exact .inr ⟨i,h4,by rw [hset,h5]; rfl,h6⟩
        · exact .inr ⟨j,hjN,by rw [hset]; simp,by rw [h,g2]⟩
    unfold wpOp
    simp only [h2]
    split at hgo
    · rename_i hw; rw [if_pos hw]; exact .inl hgo
    · rename_i hw; rw [if_neg hw]; exact hgo

theorem sig_shift (x:Sp) (xs:List Sp) (s:St):∀ m,sig (fun i=>(x::xs).getD i .none) (fun _=>true) s (m+1)=sig (fun i=>xs.getD i .none) (fun _=>true) (x.apply s) m
  | 0=>rfl
  | m+1=>by
    rw [sig,sig_shift x xs s m,sig]
    simp
theorem Runs.get {l:List Oper} {k:Nat} {s s':St} {xs:List Sp} (h:Runs P n ops l k s xs s') :
    xs.length=l.length∧s'=sig (fun i=>xs.getD i .none) (fun _=>true) s l.length∧∀ (j:Nat) (o:Oper),l[j]?=some o→OpG P n ops o (xs.getD j .none)∧(xs.getD j .none).k=k+j∧(xs.getD j .none).pre (sig (fun i=>xs.getD i .none) (fun _=>true) s j):=by
  induction h with
  | nil=>exact ⟨rfl,rfl,by simp⟩
  | cons h hk hp _ ih =>
    obtain ⟨h1,h2,h3⟩:=ih
    refine ⟨by simp [h1],by rw [h2,List.length_cons,sig_shift],fun j o hj=>?_⟩
    cases j with
    | zero=>simp at hj; subst hj; exact ⟨h,hk,hp⟩
    | succ j =>
      obtain ⟨g1,g2,g3⟩:=h3 j o (by simpa using hj)
      refine ⟨by simpa using g1,by simp only [List.getD_cons_succ]; omega,?_⟩
      rw [sig_shift]; simpa using g3

theorem wpList_runs {l:List Oper} {k:Nat} {s s':St} {xs:List Sp} (h:Runs P n ops l k s xs s'):∀ (U:Nat→Prop) (a:Act) (W:World),(∀ m,k≤m→¬ U m)→Rel w M n U s a W →
    (∀ (U':Nat→Prop) (a:Act) (W:World),(∀ m,k+l.length≤m→¬ U' m)→Rel w M n U' s' a W→Q .normal a W)→wpList P ops Q l a W:=by
  induction h with
  | nil k s=>intro U a W hU hr hQ; exact hQ U a W (by simpa using hU) hr
  | cons h hk hp _ ih =>
    rename_i o l k s s' x xs _
    intro U a W hU hr hQ
    have:=h w M U s a W (wpList P ops Q l) Q hp (hU _ (by omega)) hr fun a' W' hr'=>ih _ a' W' (fun m hm h0=>h0.elim (hU m (by omega)) (fun h1=>by omega)) hr' fun U' a W h1 h2=>hQ U' a W (fun m hm=>h1 m (by simp at hm; omega)) h2
    unfold wpList
    split at this
    · rename_i hw; rw [if_pos hw]; exact .inl this
    · rename_i hw; rw [if_neg hw]; exact this
end
end Go.Ev

namespace Go.Ev
variable [Lay]

def Lift (w:World) (M:Mz) (n:Nat) (Q:Exit→St→Prop):Exit→Act→World→Prop:=fun e a W=>∃ (U:Nat→Prop) (k:Nat) (s:St),(∀ m,k≤m→¬ U m)∧Rel w M n U s a W∧Q e s

def Wp (P:Program) (n:Nat) (c:Code) (s:St) (Q:Exit→St→Prop):Prop :=
  ∀ (w:World) (M:Mz) (U:Nat→Prop) (a:Act) (W:World) (k:Nat),(∀ m,k≤m→¬ U m)→Rel w M n U s a W→c.wp P (Lift w M n Q) a W
def Ent (s:St) (K:St→Prop):Prop :=
  ∀ (w:World) (M:Mz) (n:Nat) (U:Nat→Prop) (a:Act) (W:World) (k:Nat),(∀ m,k≤m→¬ U m)→Rel w M n U s a W→∃ (U':Nat→Prop) (k':Nat) (s':St),(∀ m,k'≤m→¬ U' m)∧Rel w M n U' s' a W∧K s'

def Then (next:St→Prop) (Q:Exit→St→Prop):Exit→St→Prop
  | .normal,s=>next s
  | e,s=>Q e s
def InB (id:Nat) (Q:Exit→St→Prop):Exit→St→Prop
  | .exit id',s=>if id'=id then Q .normal s else Q (.exit id') s
  | e,s=>Q e s

theorem Ent.done {s:St} {K:St→Prop} (h:K s):Ent s K:=fun _ _ _ U _ _ k hk hr=>⟨U,k,s,hk,hr,h⟩
theorem Ent.mono {s:St} {K K':St→Prop} (h:Ent s K) (hk:∀ s,K s→K' s):Ent s K':=fun w M n U a W k hf hr=>by
  obtain ⟨U',k',s',h1,h2,h3⟩:=h w M n U a W k hf hr
  exact ⟨U',k',s',h1,h2,hk _ h3⟩
structure Le (s s':St):Prop where
  slots:∀ i,s'.slots i=s.slots i∨s'.slots i=.bad
  H:∀ q,s'.H q=s.H q∨s'.H q=none
theorem Ent.le {s s':St} {K:St→Prop} (h:Le s s') (hK:K s'):Ent s K:=fun w M n U a W k hf hr=>by
  obtain ⟨I,hW,hU,hI⟩:=hr
  let J:In:={ I with H:=s'.H }
  have hIJ:∀ r x,J.H r=some x→I.H r=some x:=by
    intro r x hx
    rcases h.H r with h1 | h1
    · rw [hI.hH,← h1]; exact hx
    · have hx':s'.H r=some x:=hx
      rw [h1] at hx'; simp at hx'
  have hl:Later I J:=⟨fun b hb=>⟨hb,rfl⟩,fun _ h=>h,fun r k m o' ho _=>⟨m,o',hIJ _ _ ho,rfl,fun e sz l he=>⟨l,he⟩⟩,fun r k m o' ho _=>⟨⟨k,o',hIJ _ _ ho⟩,fun b hb=>⟨.inl hb,rfl⟩⟩⟩
  refine ⟨U,k,s',hf,⟨J,hW,hU,?_⟩,hK⟩
  exact { hH := rfl, ext := hI.ext, size := hI.size, defers := hI.defers, zone := hI.zone, zlo := hI.zlo, zhi := hI.zhi, zm := hI.zm, laid := hI.laid, u0 := hI.u0
          hdr:=fun r m o ho=>hI.hdr r m o (hIJ _ _ ho)
          slots:=fun i=>by
            rcases h.slots i with h1 | h1
            · rw [h1]; exact (hI.slots i).later hl
            · rw [h1]; exact .bad _
          objs:=fun r k m o ho=>by
            obtain ⟨g1,g2,g3⟩:=hI.objs r k m o (hIJ _ _ ho)
            exact ⟨g1,g2,g3.later hl rfl fun b hb=>⟨hb,rfl⟩⟩
          sets:=fun r x hx=>hI.sets r x (hIJ _ _ hx)
          disj:=fun r r' x x' hne hx hx'=>hI.disj r r' x x' hne (hIJ _ _ hx) (hIJ _ _ hx') }

section
variable {P:Program} {n:Nat} {s:St} {Q:Exit→St→Prop}

theorem Wp.mono {c:Code} {Q':Exit→St→Prop} (h:Wp P n c s Q) (hq:∀ e s,Q e s→Q' e s):Wp P n c s Q':=fun w M U a W k hf hr =>
  wp_mono (h w M U a W k hf hr) fun _ _ _ ⟨U',k',s',h1,h2,h3⟩=>⟨U',k',s',h1,h2,hq _ _ h3⟩
theorem Wp.skip (h:Q .normal s):Wp P n .skip s Q:=fun _ _ U _ _ k hf hr=>wp_skip ⟨U,k,s,hf,hr,h⟩
theorem Wp.exit {id:Nat} (h:Q (.exit id) s):Wp P n (.exit id) s Q:=fun _ _ U _ _ k hf hr=>wp_exit ⟨U,k,s,hf,hr,h⟩
theorem Wp.ret (h:Q .ret s):Wp P n .ret s Q:=fun _ _ U _ _ k hf hr=>wp_ret ⟨U,k,s,hf,hr,h⟩
theorem Wp.seq {x y:Code} (h:Wp P n x s (Then (fun s'=>Wp P n y s' Q) Q)):Wp P n (.seq x y) s Q:=fun w M U a W k hf hr =>
  wp_seq (wp_mono (h w M U a W k hf hr) fun e a' W' ⟨U',k',s',h1,h2,h3⟩=>by
    cases e with
    | normal=>exact h3 w M U' a' W' k' h1 h2
    | _=>exact ⟨U',k',s',h1,h2,h3⟩)
theorem Wp.block {id:Nat} {c:Code} (h:Wp P n c s (InB id Q)):Wp P n (.block id c) s Q:=fun w M U a W k hf hr =>
  wp_block (wp_mono (h w M U a W k hf hr) fun e a' W' ⟨U',k',s',h1,h2,h3⟩=>by
    cases e with
    | exit id' =>
      simp only [InB] at h3
      simp only [Exit.inBlock]
      split at h3
      · rename_i e; rw [if_pos e]; exact ⟨U',k',s',h1,h2,h3⟩
      · rename_i e; rw [if_neg e]; exact ⟨U',k',s',h1,h2,h3⟩
    | _=>exact ⟨U',k',s',h1,h2,h3⟩)
theorem Wp.cond {c:Operand} {x y:Code} {t:Bool} (hc:s.eval c=.one (.d (.v (.bool t)))) (ht:t=true→Wp P n x s Q) (hf:t=false→Wp P n y s Q):Wp P n (.cond c x y) s Q:=fun w M U a W k hk hr=>by
  have he:a.eval c=.bool t:=by
    obtain ⟨I,_,_,hI⟩:=hr
    have h1:=hI.eval c
    rw [hc] at h1
    exact SV.plain_ok (s:=.one (.d (.v (.bool t)))) rfl h1
  exact wp_cond_split he (fun h=>ht h w M U a W k hk hr) fun h=>hf h w M U a W k hk hr
theorem Wp.loop {c:Code} {X:Type} (inv:X→St) (I:X→Prop) (μ:X→Nat) (h0:Ent s fun s'=>∃ x,I x∧s'=inv x)
    (h:∀ x,I x→Wp P n c (inv x) (Then (fun s'=>Ent s' fun s''=>∃ x',(I x'∧μ x' < μ x)∧s''=inv x') Q)):Wp P n (.loop c) s Q:=fun w M U a W k hf hr=>by
  obtain ⟨U0,k0,_,hf0,hr0,x0,hI0,rfl⟩:=h0 w M n U a W k hf hr
  refine wp_loop_ghost (fun m a W=>∃ (U:Nat→Prop) (k:Nat) (x:X),(∀ m,k≤m→¬ U m)∧Rel w M n U (inv x) a W∧I x∧μ x=m) (μ x0) ⟨U0,k0,x0,hf0,hr0,hI0,rfl⟩ ?_
  rintro m a W ⟨U,k,x,h1,h2,h3,rfl⟩
  refine wp_mono (h x h3 w M U a W k h1 h2) fun e a' W' ⟨U',k',s',g1,g2,g3⟩=>?_
  cases e with
  | normal =>
    obtain ⟨U2,k2,_,f1,f2,x',⟨f3,f4⟩,rfl⟩:=g3 w M n U' a' W' k' g1 g2
    exact ⟨μ x',f4,U2,k2,x',f1,f2,f3,rfl⟩
  | _=>exact ⟨U',k',s',g1,g2,g3⟩
end
end Go.Ev

namespace Go.Ev
variable [Lay]

section
variable {P:Program} {n:Nat} {s:St} {Q:Exit→St→Prop} {ops:Array Oper}

theorem Wp.region {id:Nat} (h:∀ k,∃ xs s',Runs P n ops ops.toList k s xs s'∧Q .normal s'):Wp P n (.region id ops false) s Q:=fun w M U a W k hf hr=>by
  obtain ⟨xs,s',h1,h2⟩:=h k
  exact wp_region_list (wpList_runs h1 U a W hf hr fun U' a' W' h3 h4=>⟨U',_,s',h3,h4,h2⟩)

theorem orderB_lt {af:List (List Nat)} {fps:List FP} (h:orderB af fps=true):(∀ j i,j < fps.length→i∈af.getD j []→i < j)∧∀ i j,i < j→j < fps.length→conf (fps.getD i .none) (fps.getD j .none)=true→ancB af fps.length j i=true:=by
  simp only [orderB,List.all_eq_true,List.mem_range,Bool.and_eq_true,decide_eq_true_eq,Bool.or_eq_true,Bool.not_eq_true'] at h
  refine ⟨fun j i hj hi=>(h j hj).1 i hi,fun i j hi hj hc=>?_⟩
  rcases (h j hj).2 i hi with h1 | h1
  · rw [hc] at h1; simp at h1
  · exact h1

theorem Wp.draw {id:Nat} (hm:P.follows .mixedOrders=true) (h:∀ k,∃ xs s',Runs P n ops ops.toList k s xs s'∧orderB (afters ops.toList) (xs.map Sp.fp)=true∧Q .normal s'):Wp P n (.region id ops true) s Q:=fun w M U a W k hf hr=>by
  obtain ⟨xs,s',h1,h2,h3⟩:=h k
  obtain ⟨g1,g2,g3⟩:=h1.get
  obtain ⟨f1,f2⟩:=orderB_lt h2
  have hlen:xs.length=ops.size:=by rw [g1]; simp
  rw [List.length_map,hlen] at f1 f2
  have hfp:∀ i,(xs.map Sp.fp).getD i .none=(xs.getD i .none).fp:=by
    intro i
    rw [List.getD_eq_getElem?_getD,List.getD_eq_getElem?_getD,List.getElem?_map]
    cases xs[i]?<;>rfl
  obtain ⟨I,hW,hU,hI⟩:=hr
  refine wp_region_any hm (wpAny_draw (n:=n) (w:=w) (M:=M) (U:=U) (sp:=fun i=>xs.getD i .none) (s0:=s) (k:=k) (N:=ops.size) (af:=afters ops.toList) rfl ?_ ?_ f1 ?_ hf ?_ ops.size (Array.replicate ops.size false) a _ (List.range ops.size) (by simp) ?_ (by simp) ?_ ?_)
  · intro j o hj
    simp [afters,List.getD_eq_getElem?_getD,hj]
  · intro j o hj
    exact g3 j o (by simpa using hj)
  · intro i j hi hj hc
    exact ⟨_,f2 i j hi hj (by rw [hfp,hfp]; exact hc)⟩
  · intro a' W' hr'
    refine ⟨fun m=>U m∨(k≤m∧m < k+ops.size),k+ops.size,s',?_,?_,h3⟩
    · rintro m hm (h | h)
      · exact hf m (by omega) h
      · omega
    · have e:ops.toList.length=ops.size:=by simp
      rw [g2,e]; exact hr'
  · intro j i hj hL
    simp [Array.getD,hj] at hL
  · intro i hi _
    exact List.mem_range.2 hi
  · have e:sig (fun i=>xs.getD i Sp.none) (fun i=>(Array.replicate ops.size false).getD i false) s ops.size=s:=by
      have key:∀ m,m≤ops.size→sig (fun i=>xs.getD i Sp.none) (fun i=>(Array.replicate ops.size false).getD i false) s m=s:=by
        intro m
        induction m with
        | zero=>intro _; rfl
        | succ m ih =>
          intro hm
          have hlt:m < ops.size:=by omega
          rw [sig,ih (by omega)]
          simp [Array.getD,hlt]
      exact key _ (Nat.le_refl _)
    rw [e]
    refine Rel.used (U:=U) ⟨{ I with W:={ W with drawn:=W.drawn+1 } },rfl,hU,?_⟩ fun m hm=>.inl hm
    subst hW
    exact hI.world rfl rfl rfl rfl
end

/-! ### results -/
inductive Res (P:Program) (s:St):List ResultVar→Sh→List C→Prop where
  | nil:Res P s [] [] []
  | one {t:Nat} {c:C} {l:List ResultVar} {sh:Sh} {cs:List C} (h:s.slots t=.one c) (r:Res P s l sh cs):Res P s (.tmp t::l) ((false,1)::sh) (c::cs)
  | agg {t:Nat} {l0:List C} {l:List ResultVar} {sh:Sh} {cs:List C} (h:s.slots t=.agg l0) (r:Res P s l sh cs):Res P s (.tmp t::l) ((true,l0.length)::sh) (l0++cs)
  | cell {a ty:Nat} {id:Id} {k m:Nat} {cells:List C} {i:TI} {l:List ResultVar} {sh:Sh} {cs:List C} (h:s.slots a=.one (.ptr id k 0)) (hH:s.H id=some (k,m,.box cells)) (ht:TyOk P ty i) (hag:i.k.agg=true) (hsz:i.size=cells.length)
      (r:Res P s l sh cs):Res P s (.cell a ty::l) ((true,cells.length)::sh) (cells++cs)
  | cell1 {a ty:Nat} {id:Id} {k m:Nat} {c:C} {i:TI} {l:List ResultVar} {sh:Sh} {cs:List C} (h:s.slots a=.one (.ptr id k 0)) (hH:s.H id=some (k,m,.box [c])) (ht:TyOk P ty i) (hag:i.k.agg=false)
      (r:Res P s l sh cs):Res P s (.cell a ty::l) ((false,1)::sh) (c::cs)

def resOne (a:Array Value):ResultVar→Sem Value
  | .tmp t=>pure (a.getD t undef)
  | .cell x t=>do loadVar t (← asAddr (a.getD x undef))

theorem Res.ok {P:Program} {w:World} {M:Mz} {n:Nat} {I:In} {s:St} {a:Act} (hr:RelI w M n I s a) {l:List ResultVar} {sh:Sh} {cs:List C} (h:Res P s l sh cs) :
    ∃ g,(l.mapM (resOne a.tmps)).run P I.W=.ok (mkVs sh g) I.W∧(∀ (t:Nat) (c:C),cs[t]?=some c→Cok I c (g t))∧sh.total=cs.length:=by
  induction h with
  | nil=>exact ⟨fun _=>undef,by simp [mkVs],by simp,rfl⟩
  | @one t c l sh cs h _ ih =>
    obtain ⟨g,h1,h2,h3⟩:=ih
    have h4:=hr.slots t
    rw [h] at h4
    cases h4 with
    | one _ _ hc =>
      obtain ⟨g',h5,h6⟩:=shape_cons (p:=(false,1)) (sh:=sh) (cs0:=[c]) (cs:=cs) (g0:=fun _=>a.tmps.getD t undef) rfl (fun i c' ht=>by cases i with
        | zero=>simp at ht; subst ht; exact hc
        | succ=>simp at ht) h2
      exact ⟨g',by rw [h5]; simp [List.mapM_cons,resOne,h1,mkV],h6,by simp [Sh.total,wd,h3]; omega⟩
  | @agg t l0 l sh cs h _ ih =>
    obtain ⟨g,h1,h2,h3⟩:=ih
    have h4:=hr.slots t
    rw [h] at h4
    generalize hu:a.tmps.getD t undef=u at h4
    cases h4 with
    | agg _ us hs hc =>
      obtain ⟨g',h5,h6⟩:=shape_cons (p:=(true,l0.length)) (sh:=sh) (cs0:=l0) (cs:=cs) (g0:=fun i=>us.getD i undef) rfl hc h2
      exact ⟨g',by rw [h5]; simp only [mkV_agg hs]; rw [List.mapM_cons]; simp only [resOne,hu]; simp [h1],h6,by simp [Sh.total,wd,h3]⟩
  | @cell x ty id k m cells i l sh cs h hH ht hag hsz _ ih =>
    obtain ⟨g,h1,h2,h3⟩:=ih
    have h4:=hr.slots x
    rw [h] at h4
    generalize hu:a.tmps.getD x undef=u at h4
    cases h4 with
    | one _ _ hc =>
      obtain ⟨ad,hu2,hcs⟩:=(At.ptr (s:=s) id k 0 m cells hH).ok hr (fun p hp=>by simp only [List.mem_singleton] at hp; subst hp; exact hH) hc
      subst hu2
      rw [List.drop_zero] at hcs
      obtain ⟨v,h7,h8⟩:=(loads ht hcs).1 hag (by omega)
      rw [hsz,List.take_length] at h8
      cases h8 with
      | agg _ us hs hc' =>
        obtain ⟨g',h5,h6⟩:=shape_cons (p:=(true,cells.length)) (sh:=sh) (cs0:=cells) (cs:=cs) (g0:=fun i=>us.getD i undef) rfl hc' h2
        exact ⟨g',by rw [h5]; simp only [mkV_agg hs]; rw [List.mapM_cons]; simp only [resOne,hu]; simp [asAddr,h7,h1],h6,by simp [Sh.total,wd,h3]⟩
  | @cell1 x ty id k m c i l sh cs h hH ht hag _ ih =>
    obtain ⟨g,h1,h2,h3⟩:=ih
    have h4:=hr.slots x
    rw [h] at h4
    generalize hu:a.tmps.getD x undef=u at h4
    cases h4 with
    | one _ _ hc =>
      obtain ⟨ad,hu2,hcs⟩:=(At.ptr (s:=s) id k 0 m [c] hH).ok hr (fun p hp=>by simp only [List.mem_singleton] at hp; subst hp; exact hH) hc
      subst hu2
      obtain ⟨v,h7,h8⟩:=(loads ht hcs).2 hag c rfl
      cases h8 with
      | one _ _ hc' =>
        obtain ⟨g',h5,h6⟩:=shape_cons (p:=(false,1)) (sh:=sh) (cs0:=[c]) (cs:=cs) (g0:=fun _=>v) rfl (fun i c' ht=>by cases i with
          | zero=>simp at ht; subst ht; exact hc'
          | succ=>simp at ht) h2
        exact ⟨g',by rw [h5]; rw [List.mapM_cons]; simp only [resOne,hu]; simp [asAddr,h7,h1,mkV],h6,by simp [Sh.total,wd,h3]; omega⟩

theorem results_run {P:Program} {fn:Func} {a:Array Value} {W:World} {sh:Sh} {g:Nat→Value} (h:(fn.results.toList.mapM (resOne a)).run P W=.ok (mkVs sh g) W):(results fn a).run P W=.ok (resV sh g) W:=by
  have e:results fn a=(do let vs ← fn.results.mapM (resOne a); pure (if h:vs.size=1 then vs[0] else .tuple vs)):=by
    unfold results
    rfl
  rw [e,Array.mapM_eq_mapM_toList]
  simp only [Sem.run_bind,Sem.run_map,h]
  simp only [resV]
  generalize mkVs sh g=l
  cases l with
  | nil=>simp
  | cons v l=>cases l<;>simp
end Go.Ev

namespace Go.Ev
variable [Lay]

def argNL:Nat→List D→List NL
  | _,[]=>[]
  | t,d::l=>⟨[t,0,0],0,0,d⟩::argNL (t+1) l
def entry (sh:Sh) (ds:List D):St where
  slots:=fun i=>(mkSVs sh ((argNL 0 ds).map (NL.cell 0))).getD i .bad
  H:=fun q=>(objsOf 0 (argNL 0 ds)).lookup q

theorem argNL_get:∀ (ds:List D) (t0 t:Nat) (x:NL),(argNL t0 ds)[t]?=some x→x=⟨[t0+t,0,0],0,0,x.d⟩∧ds[t]?=some x.d
  | [],_,_,_,h=>by simp [argNL] at h
  | d::ds,t0,0,x,h=>by simp [argNL] at h; subst h; simp
  | d::ds,t0,t+1,x,h=>by
    have h':(argNL (t0+1) ds)[t]?=some x:=by simpa [argNL] using h
    obtain ⟨h1,h2⟩:=argNL_get ds (t0+1) t x h'
    refine ⟨?_,by simpa using h2⟩
    rw [h1]; simp; omega
theorem argNL_of:∀ (ds:List D) (t0 t:Nat) (d:D),ds[t]?=some d→(argNL t0 ds)[t]?=some ⟨[t0+t,0,0],0,0,d⟩
  | [],_,_,_,h=>by simp at h
  | d::ds,t0,0,x,h=>by simp at h; subst h; simp [argNL]
  | d::ds,t0,t+1,x,h=>by
    have:=argNL_of ds (t0+1) t x (by simpa using h)
    simp only [argNL,List.getElem?_cons_succ,this,Option.some.injEq,NL.mk.injEq,List.cons.injEq,and_true]
    omega
theorem argNL_len:∀ (ds:List D) (t0:Nat),(argNL t0 ds).length=ds.length
  | [],_=>rfl
  | d::ds,t0=>by simp [argNL,argNL_len ds]

theorem unpack_ids {id:Id} {k m st:Nat} {d:D} {q:Id} {x:Nat × Nat × O} (h:(q,x)∈(unpack id k m st d).2):q=id∨∃ j,q=id++[j]:=by
  unfold unpack at h
  split at h
  · simp only [List.mem_cons,Prod.mk.injEq] at h
    rcases h with ⟨h,_⟩ | h
    · exact .inl h
    · obtain ⟨j,_,h2⟩:=unpackL_ids _ _ _ _ _ _ h
      exact .inr ⟨j,h2⟩
  · exact .inl (unpack0_ids _ _ _ _ _ _ h)
theorem unpack_stamps {id:Id} {d:D} {q:Id} {k m:Nat} {o:O} (h:(q,(k,m,o))∈(unpack id 0 0 0 d).2):k=0∧m=0:=by
  have h0:∀ (id:Id) (d:D),(q,(k,m,o))∈(unpack0 id 0 0 d).2→k=0∧m=0:=by
    intro id d h
    unfold unpack0 at h
    split at h<;>simp at h
    exact ⟨h.2.1,h.2.2.1⟩
  unfold unpack at h
  split at h
  · rename_i ds
    simp only [List.mem_cons,Prod.mk.injEq] at h
    rcases h with ⟨_,h1,h2,_⟩ | h
    · exact ⟨h1,h2⟩
    · have hL:∀ (l:List D) (i:Nat),(q,(k,m,o))∈(unpackL id 0 i l).2→k=0∧m=0:=by
        intro l
        induction l with
        | nil=>intro i h; simp [unpackL] at h
        | cons d l ih =>
          intro i h
          simp only [unpackL,List.mem_append] at h
          rcases h with h | h
          · exact h0 _ _ h
          · exact ih _ h
      exact hL _ _ h
  · exact h0 _ _ h
theorem unpack_nodup (id:Id) (k m st:Nat) (d:D):(idsOf (unpack id k m st d).2).Nodup:=by
  have h0:∀ (id:Id) (k m:Nat) (d:D),(idsOf (unpack0 id k m d).2).Nodup:=by
    intro id k m d
    unfold unpack0
    split<;>simp [idsOf]
  unfold unpack
  split
  · rename_i ds
    have hL:∀ (l:List D) (i:Nat),(idsOf (unpackL id st i l).2).Nodup:=by
      intro l
      induction l with
      | nil=>intro i; simp [unpackL,idsOf]
      | cons d l ih =>
        intro i
        simp only [unpackL,idsOf,List.map_append]
        refine List.nodup_append.2 ⟨h0 _ _ _ _,ih _,fun q hq q' hq' e=>?_⟩
        obtain ⟨⟨p1,p2⟩,hp,rfl⟩:=List.mem_map.1 hq
        obtain ⟨⟨p1',p2'⟩,hp',rfl⟩:=List.mem_map.1 hq'
        have e1:=unpack0_ids _ _ _ _ _ _ hp
        obtain ⟨j,hj,e2⟩:=unpackL_ids _ _ _ _ _ _ hp'
        simp only at e
        rw [e1,e2] at e
        have:=List.append_cancel_left e
        simp at this; omega
    simp only [idsOf,List.map_cons,List.nodup_cons]
    refine ⟨fun h=>?_,hL _ _⟩
    obtain ⟨⟨p1,p2⟩,hp,e⟩:=List.mem_map.1 h
    obtain ⟨j,_,e2⟩:=unpackL_ids _ _ _ _ _ _ hp
    simp only at e
    rw [e2] at e
    have:=congrArg List.length e
    simp at this
  · exact h0 _ _ _ _

theorem argObjs_ids {ds:List D} {t0:Nat} {q:Id} {x:Nat × Nat × O} (h:(q,x)∈objsOf 0 (argNL t0 ds)):(∃ t,t0≤t∧(q=[t,0,0]∨∃ j,q=[t,0,0,j]))∧∀ k m o,x=(k,m,o)→k=0∧m=0:=by
  obtain ⟨y,hy,hq⟩:=List.mem_flatMap.1 h
  obtain ⟨t,ht⟩:=List.mem_iff_getElem?.1 hy
  obtain ⟨h1,_⟩:=argNL_get ds t0 t y ht
  unfold NL.objs at hq
  rw [h1] at hq
  refine ⟨⟨t0+t,by omega,?_⟩,fun k m o e=>?_⟩
  · rcases unpack_ids hq with h2 | ⟨j,h2⟩
    · exact .inl h2
    · exact .inr ⟨j,by simpa using h2⟩
  · subst e; exact unpack_stamps hq
theorem argObjs_nodup:∀ (ds:List D) (t0:Nat),(idsOf (objsOf 0 (argNL t0 ds))).Nodup
  | [],_=>by simp [argNL,objsOf,idsOf]
  | d::ds,t0=>by
    have e:objsOf 0 (argNL t0 (d::ds))=(unpack [t0,0,0] 0 0 0 d).2++objsOf 0 (argNL (t0+1) ds):=by simp [argNL,objsOf,NL.objs]
    rw [e,idsOf,List.map_append]
    refine List.nodup_append.2 ⟨unpack_nodup _ _ _ _ _,argObjs_nodup ds (t0+1),fun q hq q' hq' e=>?_⟩
    obtain ⟨⟨p1,p2⟩,hp,rfl⟩:=List.mem_map.1 hq
    obtain ⟨⟨p1',p2'⟩,hp',rfl⟩:=List.mem_map.1 hq'
    obtain ⟨⟨t,ht,h2⟩,_⟩:=argObjs_ids hp'
    simp only at e h2
    rcases unpack_ids hp with h1 | ⟨j,h1⟩<;>rcases h2 with h2 | ⟨j',h2⟩<;>rw [h1,h2] at e<;>simp at e<;>omega

def acell:Nat × D→C
  | (p,.pt _ _)=>.ptr [p,0,0] 0 0
  | (p,_)=>.ref [p,0,0] 0
def AftOk (ds:List D) (aft:List (Nat × D)):Prop:=∀ x∈aft,(∃ l l',ds[x.1]?=some (.pt true l)∧x.2=.pt true l')∨∃ e sz l l',ds[x.1]?=some (.sl true e sz l)∧x.2=.sl true e sz l'

def Fin (P:Program) (fn:Func) (rsh:Sh) (outs:List D) (aft:List (Nat × D)) (s:St):Prop :=
  ∃ (cs:List C) (R:List Id) (preH:Objs) (gs:List (List Id)),Res P s fn.results.toList rsh cs∧Given R preH (cs++aft.map acell) (outs++aft.map (·.2)) gs∧gs.flatten.Nodup∧(∀ r∈R,r ∉ gs.flatten)∧∀ p∈preH,s.H p.1=some p.2

theorem Trip.of {P:Program} {f:FuncId} {fn:Func} {c:Code} {sh:Sh} {ds:List D} {rsh:Sh} {outs:List D} {aft:List (Nat × D)} (hf:P.funcs[f]?=some fn) (hname:fn.name ≠ "runtime.NumGoroutine") (hb:fn.body=some c)
    (hst:sh.total=ds.length) (hn:sh.length≤fn.ntmps) (hrt:rsh.total=outs.length) (haft:AftOk ds aft)
    (h:Wp P fn.ntmps c (entry sh ds) fun e s=>(e=.normal∨e=.ret)∧Ent s (Fin P fn rsh outs aft)):Trip P f sh ds rsh outs aft where
  fn:=⟨fn,hf,hname,by rw [hb]; simp⟩
  run:=fun W Z g T hz hlaid how hT hsep=>by
    refine calls_of_wp hf hb ?_
    have hnod:=argObjs_nodup ds 0
    obtain ⟨hd,SS,h1,h2,h3,h4⟩:=hold_all (W:=W) (Z:=Z) 0 (argNL 0 ds) g T (fun t x hx=>how t x.d (argNL_get ds 0 t x hx).2) hnod hsep
    let M:Mz:=⟨fun b=>∃ t,T t b,Z,hd⟩
    let J:In:=⟨W,Z,hd,SS,fun m=>m=0,(entry sh ds).H⟩
    have hmem:∀ q x,J.H q=some x→(q,x)∈objsOf 0 (argNL 0 ds):=fun q x hx=>mem_lookup hx
    obtain ⟨c1,c2⟩:=h4 J rfl (fun _ h=>h) rfl (fun x hx=>by
      obtain ⟨t,ht⟩:=List.mem_iff_getElem?.1 hx
      have:=(argNL_get ds 0 t x ht).1
      rw [this]) (fun q x hq=>⟨lookup_mem hq hnod,rfl,rfl⟩)
    obtain ⟨d1,d2⟩:=mkSVs_ok (I:=J) sh ((argNL 0 ds).map (NL.cell 0)) g (by rw [List.length_map,argNL_len]; exact hst) (fun t c' ht=>by
      simp only [List.getElem?_map,Option.map_eq_some_iff] at ht
      obtain ⟨x,hx,rfl⟩:=ht
      exact c1 t x hx)
    have hmk:(mkVs sh g).length=sh.length:=by
      have:∀ (sh:Sh) (g:Nat→Value),(mkVs sh g).length=sh.length:=by
        intro sh
        induction sh with
        | nil=>intro g; rfl
        | cons p sh ih=>intro g; simp [mkVs,ih]
      exact this sh g
    have hSS:∀ q b,SS q b→b < W.heap.size∧¬ Z b∧∃ t,T t b:=by
      intro q b hb'
      obtain ⟨t,_,h5⟩:=h2 q b hb'
      exact ⟨(hT t b h5).1,(hT t b h5).2,t,h5⟩
    have hrel:Rel W M fn.ntmps (fun m=>m=0) (entry sh ds) { tmps:=(mkVs sh g).toArray++Array.replicate (fn.ntmps - (mkVs sh g).toArray.size) undef,defers:=[] } W:=by
      refine ⟨J,rfl,rfl,?_⟩
      exact { hH := rfl, ext := .refl _ _, size := by simp [hmk]; omega, defers := rfl, zone := hz, zlo := fun _ h => h, zhi := fun _ h => .inl h, zm := fun b hb => ⟨hz b hb, fun ⟨t, ht⟩ => (hT t b ht).2 hb⟩, laid := hlaid, u0 := rfl, hdr := fun _ _ _ _ => rfl
              slots:=fun i=>by
                show SVok J ((mkSVs sh ((argNL 0 ds).map (NL.cell 0))).getD i .bad) _
                cases hx:(mkSVs sh ((argNL 0 ds).map (NL.cell 0)))[i]? with
                | none=>rw [List.getD_eq_getElem?_getD,hx]; exact .bad _
                | some x =>
                  rw [List.getD_eq_getElem?_getD,hx]
                  have hlt:i < (mkVs sh g).length:=by rw [← d1]; exact (List.getElem?_eq_some_iff.1 hx).1
                  have:=d2 i x hx
                  have e:((mkVs sh g).toArray++Array.replicate (fn.ntmps - (mkVs sh g).toArray.size) undef).getD i undef=(mkVs sh g).getD i undef:=by
                    simp [List.getD_eq_getElem?_getD,hlt,Array.getElem?_append]
                  rw [e]; exact this
              objs:=fun r k m o ho=>by
                obtain ⟨_,h6⟩:=argObjs_ids (hmem r _ ho)
                obtain ⟨rfl,rfl⟩:=h6 k m o rfl
                exact ⟨rfl,rfl,c2 r _ (hmem r _ ho)⟩
              sets:=fun r x _ b hb'=>⟨(hSS r b hb').1,(hSS r b hb').2.1,.inl (hSS r b hb').2.2⟩
              disj:=fun r r' _ _ hne _ _ b=>h3 r r' b hne }
    refine wp_mono (h W M (fun m=>m=0) _ W 1 (fun m hm e=>by omega) hrel) fun e a' W' ⟨U',k',s',f1,f2,f3,f4⟩=>?_
    obtain ⟨U2,k2,s2,_,⟨I,hIW,_,hI⟩,cs,R,preH,gs,r1,r2,r3,r4,r5⟩:=f4 W M fn.ntmps U' a' W' k' f1 f2
    subst hIW
    obtain ⟨v,v1,v2,v3⟩:=r1.ok hI
    have hcl:cs.length=outs.length:=by omega
    obtain ⟨⟨l1,l2⟩,hget⟩:=r2.get
    have hacell:∀ (t:Nat) (x:Nat × D),aft[t]?=some x→Cok I (acell x) (g x.1):=by
      intro t x hx
      have h0:=haft x (List.mem_of_getElem? hx)
      have hid:∀ (d:D) (y:Nat × Nat × O),ds[x.1]?=some d→([x.1,0,0],y)∈(unpack [x.1,0,0] 0 0 0 d).2→hd [x.1,0,0]=g x.1:=by
        intro d y hd' hy
        have h5:=argNL_of ds 0 x.1 d hd'
        rw [Nat.zero_add] at h5
        exact h1 x.1 _ h5 y hy
      rcases h0 with ⟨l,l',h5,h6⟩ | ⟨e0,sz,l,l',h5,h6⟩
      · have h7:=hid _ (0,0,.box (unpackL [x.1,0,0] 0 0 l).1) h5 (by simp [unpack])
        have h8:=how x.1 _ h5
        have e:acell x=.ptr [x.1,0,0] 0 0:=by obtain ⟨p,d⟩:=x; simp only at h6; subst h6; rfl
        rw [e]
        cases hg:g x.1 with
        | pointer ad =>
          rw [hg] at h8
          cases h8 with
          | rd _ _ _ h9=>cases h9
          | pt _ _ gg =>
            refine .ptr _ _ _ _ hI.u0 fun m o ho=>?_
            rw [hI.hdr _ _ _ ho]
            exact h7.trans hg
        | _ =>
          rw [hg] at h8
          cases h8 with
          | rd _ _ _ h9=>cases h9
      · have h7:=hid _ (0,0,.row e0 sz l) h5 (by simp [unpack,unpack0])
        have h8:=how x.1 _ h5
        have e:acell x=.ref [x.1,0,0] 0:=by obtain ⟨p,d⟩:=x; simp only at h6; subst h6; rfl
        rw [e]
        refine .ref _ _ _ hI.u0 h8.one fun m o ho=>?_
        rw [hI.hdr _ _ _ ho]
        exact h7.symm
    have hgmem:∀ t r,r∈gs.getD t []→r∈gs.flatten:=by
      intro t r hr'
      rw [List.getD_eq_getElem?_getD] at hr'
      cases hgt:gs[t]? with
      | none=>rw [hgt] at hr'; simp at hr'
      | some l=>rw [hgt] at hr'; exact List.mem_flatten.2 ⟨l,List.mem_of_getElem? hgt,hr'⟩
    have hpost:Post W I.W Z (I.zone R) (fun b=>∃ t,T t b) (outs++aft.map (·.2)) (fun t=>if t < outs.length then v t else g (aft.getD (t - outs.length) (0,.v undef)).1) (fun t b=>I.setsOf (gs.getD t []) b):=by
      refine ⟨hI.ext,fun b hb'=>.inl (hI.zlo b hb'),?_,?_,?_,?_⟩
      · rintro b (hb' | ⟨q,x,_,h6,h7⟩)
        · exact ⟨hI.zone b hb',hI.zhi b hb'⟩
        · obtain ⟨h8,_,h9⟩:=hI.sets q x h6 b h7
          exact ⟨h8,.inr h9⟩
      · intro t d ht
        obtain ⟨c',h5,h6⟩:=hget t d ht
        refine h6 W M fn.ntmps I s2 a' _ hI r5 ?_
        show Cok I c' (if t < outs.length then v t else _)
        rw [List.getElem?_append] at h5
        split at h5
        · rename_i hlt
          rw [if_pos (by omega)]; exact v2 t c' h5
        · rename_i hlt
          rw [if_neg (by omega),← hcl]
          simp only [List.getElem?_map,Option.map_eq_some_iff] at h5
          obtain ⟨x,hx,rfl⟩:=h5
          rw [List.getD_eq_getElem?_getD,hx]
          exact hacell _ x hx
      · rintro t b ⟨q,x,h5,h6,h7⟩
        obtain ⟨h8,h9,h10⟩:=hI.sets q x h6 b h7
        refine ⟨h8,fun hz'=>?_,h10⟩
        rcases hz' with hz' | ⟨q',x',g1,g2,g3⟩
        · exact h9 hz'
        · exact hI.disj q q' x x' (fun e=>r4 q' g1 (e ▸ hgmem t q h5)) h6 g2 b h7 g3
      · rintro t t' b hne ⟨q,x,h5,h6,h7⟩ ⟨q',x',h5',h6',h7'⟩
        by_cases e:q=q'
        · subst e; exact hne (flatten_nodup r3 t t' q h5 h5')
        · exact hI.disj q q' x x' e h6 h6' b h7 h7'
    rcases f3 with rfl | rfl
    · exact ⟨hI.defers,_,results_run v1,v,_,_,rfl,hpost⟩
    · exact ⟨hI.defers,_,results_run v1,v,_,_,rfl,hpost⟩
end Go.Ev

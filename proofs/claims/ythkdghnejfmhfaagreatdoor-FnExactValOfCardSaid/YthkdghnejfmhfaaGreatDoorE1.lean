/- A symbolic executor over data by value, proved sound over any program: no conditions. -/
import Derived.Maps.AppendAt
import Derived.Laws.AppendOwn
import Derived.WalkKit
import Derived.Laws.Rows
import Derived.Laws.CopyRow
import Derived.Laws.OwnMore
import Derived.Laws.MakeOwn
import Derived.Laws.Tables
set_option linter.all false
set_option linter.unnecessarySimpa false
set_option linter.unusedSectionVars false
set_option linter.unusedSimpArgs false
set_option linter.unusedVariables false
namespace Go.Ev

inductive D where
  | v (x:Value)
  | sl (m:Bool) (e sz:Nat) (l:List (List D))
  | pt (m:Bool) (l:List D)
  | fn (f:FuncId) (first:List (Bool × List D)) (caps:List D)
  | any (x:Nat)

def mkV (b:Bool) (n:Nat) (g:Nat→Value):Value:=if b then .agg (Array.ofFn fun j:Fin n=>g j) else if n≤1 then g 0 else .func (.func (n - 2)) #[] #[g 0]

inductive Rd (W:World) (Z:Nat→Prop):D→Value→Prop where
  | v (x:Value) (h1:x.oneCell'=true):Rd W Z (.v x) x
  | sl (e sz:Nat) (l:List (List D)) (A:Option Addr) (cap:Nat) (val:Nat→Nat→Value)
      (hcap:l.length≤cap) (hmax:l.length≤maxLen)
      (hlen:∀ (j:Nat) (el:List D),l[j]?=some el→el.length=sz)
      (hcell:∀ (j:Nat) (el:List D) (i:Nat) (c:D),l[j]?=some el→el[i]?=some c→∃ ad,A=some ad∧Z ad.block∧W.cell? (ad.add (j * sz+i))=some (val j i))
      (hrd:∀ (j:Nat) (el:List D) (i:Nat) (c:D),l[j]?=some el→el[i]?=some c→Rd W Z c (val j i)):Rd W Z (.sl false e sz l) (.slice A l.length cap)
  | pt (l:List D) (ad:Addr) (val:Nat→Value)
      (hcell:∀ (i:Nat) (c:D),l[i]?=some c→Z ad.block∧W.cell? (ad.add i)=some (val i))
      (hrd:∀ (i:Nat) (c:D),l[i]?=some c→Rd W Z c (val i)):Rd W Z (.pt false l) (.pointer (some ad))
  | fn (f:FuncId) (first:List (Bool × List D)) (caps:List D) (fs us:Array Value) (hs:us.size=caps.length) (fv:Nat→Nat→Value)
      (hf:fs.size=first.length) (hfv:∀ (i:Nat) (x:Bool × List D),first[i]?=some x→fs.getD i undef=mkV x.1 x.2.length (fv i)∧(x.1=false→x.2.length=1))
      (hrf:∀ (i:Nat) (x:Bool × List D) (j:Nat) (c:D),first[i]?=some x→x.2[j]?=some c→Rd W Z c (fv i j))
      (hrd:∀ (i:Nat) (c:D),caps[i]?=some c→Rd W Z c (us.getD i undef)):Rd W Z (.fn f first caps) (.func (.func f) fs us)
  | any (x:Nat) (u:Value) (h1:u.oneCell'=true):Rd W Z (.any x) u

inductive Ow (W:World) (Z:Nat→Prop):(Nat→Prop)→D→Value→Prop where
  | rd (S:Nat→Prop) (d:D) (u:Value) (h:Rd W Z d u):Ow W Z S d u
  | sl (S:Nat→Prop) (e sz:Nat) (l:List (List D)) (u:Value) (cells:List Value) (T:Nat→Nat→Nat→Prop) (val:Nat→Nat→Value)
      (hrow:W.ownsRow 0 e sz u l.length cells) (hmax:l.length≤maxLen)
      (hS:∀ k,u.ownBlock=some k→S k)
      (hT:∀ j i b,T j i b→S b∧u.ownBlock≠some b)
      (hdis:∀ j i j' i' b,T j i b→T j' i' b→j=j'∧i=i')
      (hlen:∀ (j:Nat) (el:List D),l[j]?=some el→el.length=sz)
      (hcell:∀ (j:Nat) (el:List D) (i:Nat) (c:D),l[j]?=some el→el[i]?=some c→cells[j * sz+i]?=some (val j i))
      (how:∀ (j:Nat) (el:List D) (i:Nat) (c:D),l[j]?=some el→el[i]?=some c→Ow W Z (T j i) c (val j i)):Ow W Z S (.sl true e sz l) u
  | pt (S:Nat→Prop) (l:List D) (g:Nat) (us:Array Value) (t:TypeId) (T:Nat→Nat→Prop)
      (hblk:W.heap[g]?=some (.cells us t (0,0))) (hs:us.size=l.length) (hg:S g)
      (hT:∀ i b,T i b→S b∧b≠g) (hdis:∀ i i' b,T i b→T i' b→i=i')
      (how:∀ (i:Nat) (c:D),l[i]?=some c→Ow W Z (T i) c (us.getD i undef)):Ow W Z S (.pt true l) (.pointer (some ⟨g,0,none⟩))

theorem cell_of_agree {W W':World} {ad:Addr} (n:Nat) (h:W'.heap[ad.block]?=W.heap[ad.block]?):W'.cell? (ad.add n)=W.cell? (ad.add n):=by
  have e:(ad.add n).block=ad.block:=by unfold Addr.add; split<;>rfl
  exact World.cell?_of_block (by rw [e]; exact h)

theorem Rd.move {W W':World} {Z Z':Nat→Prop} {d:D} {u:Value} (h:Rd W Z d u) (hz:∀ b,Z b→Z' b∧W'.heap[b]?=W.heap[b]?):Rd W' Z' d u:=by
  induction h with
  | v x h1=>exact .v x h1
  | sl e sz l A cap val hcap hmax hlen hcell _ ih =>
    refine .sl e sz l A cap val hcap hmax hlen (fun j el i c hj hi=>?_) ih
    obtain ⟨ad,h1,h2,h3⟩:=hcell j el i c hj hi
    exact ⟨ad,h1,(hz _ h2).1,(cell_of_agree _ (hz _ h2).2).trans h3⟩
  | pt l ad val hcell _ ih =>
    refine .pt l ad val (fun i c hi=>?_) ih
    obtain ⟨h2,h3⟩:=hcell i c hi
    exact ⟨(hz _ h2).1,(cell_of_agree _ (hz _ h2).2).trans h3⟩
  | fn f first caps fs us hs fv hf hfv _ _ ih1 ih2=>exact .fn f first caps fs us hs fv hf hfv ih1 ih2
  | any x u h1=>exact .any x u h1

theorem Rd.mono {W:World} {Z Z':Nat→Prop} {d:D} {u:Value} (h:Rd W Z d u) (hz:∀ b,Z b→Z' b):Rd W Z' d u:=h.move fun b hb=>⟨hz b hb,rfl⟩

theorem ownsRow_move {w w1:World} {base:Nat} {e:TypeId} {size n:Nat} {v:Value} {xs:List Value} (h:w.ownsRow base e size v n xs) (hm:∀ k,v.ownBlock=some k→w1.heap[k]?=w.heap[k]?):w1.ownsRow base e size v n xs:=by
  obtain ⟨h1,h2⟩:=h
  refine ⟨h1,?_⟩
  rcases h2 with h2 | ⟨g,cap,cur,rfl,hg,hh,r⟩
  · exact .inl h2
  · exact .inr ⟨g,cap,cur,rfl,hg,(hm g (by simp [Value.ownBlock])).trans hh,r⟩

theorem Ow.move {W W':World} {Z Z':Nat→Prop} {S:Nat→Prop} {d:D} {u:Value} (h:Ow W Z S d u) (hz:∀ b,Z b→Z' b∧W'.heap[b]?=W.heap[b]?)
    (hs:∀ b,S b→W'.heap[b]?=W.heap[b]?):Ow W' Z' S d u:=by
  induction h with
  | rd S d u h=>exact .rd S d u (h.move hz)
  | sl S e sz l u cells T val hrow hmax hS hT hdis hlen hcell _ ih =>
    exact .sl S e sz l u cells T val (ownsRow_move hrow fun k hk=>hs k (hS k hk)) hmax hS hT hdis hlen hcell
      (fun j el i c hj hi=>ih j el i c hj hi (fun b hb=>hs b (hT j i b hb).1))
  | pt S l g us t T hblk hsz hg hT hdis _ ih =>
    exact .pt S l g us t T ((hs g hg).trans hblk) hsz hg hT hdis (fun i c hi=>ih i c hi (fun b hb=>hs b (hT i b hb).1))

theorem Ow.mono {W:World} {Z S S':Nat→Prop} {d:D} {u:Value} (h:Ow W Z S d u) (hs:∀ b,S b→S' b):Ow W Z S' d u:=by
  cases h with
  | rd _ _ _ h=>exact .rd _ _ _ h
  | sl _ e sz l _ cells T val hrow hmax hS hT hdis hlen hcell how =>
    exact .sl _ e sz l _ cells T val hrow hmax (fun k hk=>hs k (hS k hk)) (fun j i b hb=>⟨hs b (hT j i b hb).1,(hT j i b hb).2⟩) hdis hlen hcell how
  | pt _ l g us t T hblk hsz hg hT hdis how =>
    exact .pt _ l g us t T hblk hsz (hs g hg) (fun i b hb=>⟨hs b (hT i b hb).1,(hT i b hb).2⟩) hdis how

mutual
def D.erase:D→D
  | .v x=>.v x
  | .sl _ e sz l=>.sl false e sz (D.eraseLL l)
  | .pt _ l=>.pt false (D.eraseL l)
  | .fn f first caps=>.fn f first caps
  | .any x=>.any x
def D.eraseL:List D→List D
  | []=>[]
  | d::l=>d.erase::D.eraseL l
def D.eraseLL:List (List D)→List (List D)
  | []=>[]
  | x::l=>D.eraseL x::D.eraseLL l
end
theorem D.eraseL_eq (l:List D):D.eraseL l=l.map D.erase:=by
  induction l with
  | nil=>rfl
  | cons d l ih=>rw [D.eraseL,ih]; rfl
theorem D.eraseLL_eq (l:List (List D)):D.eraseLL l=l.map (fun x=>x.map D.erase):=by
  induction l with
  | nil=>rfl
  | cons d l ih=>rw [D.eraseLL,ih,D.eraseL_eq]; rfl
theorem D.erase_v (x:Value):(D.v x).erase=.v x:=by rw [D.erase]
theorem D.erase_fn (f:FuncId) (a:List (Bool × List D)) (c:List D):(D.fn f a c).erase=.fn f a c:=by rw [D.erase]
theorem D.erase_sl (m:Bool) (e sz:Nat) (l:List (List D)):(D.sl m e sz l).erase=.sl false e sz (l.map fun x=>x.map D.erase):=by rw [D.erase,D.eraseLL_eq]
theorem D.erase_pt (m:Bool) (l:List D):(D.pt m l).erase=.pt false (l.map D.erase):=by rw [D.erase,D.eraseL_eq]

theorem Rd.erase {W:World} {Z:Nat→Prop} {d:D} {u:Value} (h:Rd W Z d u):Rd W Z d.erase u:=by
  induction h with
  | v x h1=>rw [D.erase_v]; exact .v x h1
  | sl e sz l A cap val hcap hmax hlen hcell _ ih =>
    rw [D.erase_sl]
    have hl:(l.map fun x=>x.map D.erase).length=l.length:=List.length_map _
    rw [← hl]
    refine .sl e sz _ A cap val (by rw [hl]; exact hcap) (by rw [hl]; exact hmax) ?_ ?_ ?_
    · intro j el hj
      simp only [List.getElem?_map,Option.map_eq_some_iff] at hj
      obtain ⟨el0,hj,rfl⟩:=hj
      rw [List.length_map]; exact hlen j el0 hj
    · intro j el i c hj hi
      simp only [List.getElem?_map,Option.map_eq_some_iff] at hj
      obtain ⟨el0,hj,rfl⟩:=hj
      simp only [List.getElem?_map,Option.map_eq_some_iff] at hi
      obtain ⟨c0,hi,rfl⟩:=hi
      exact hcell j el0 i c0 hj hi
    · intro j el i c hj hi
      simp only [List.getElem?_map,Option.map_eq_some_iff] at hj
      obtain ⟨el0,hj,rfl⟩:=hj
      simp only [List.getElem?_map,Option.map_eq_some_iff] at hi
      obtain ⟨c0,hi,rfl⟩:=hi
      exact ih j el0 i c0 hj hi
  | pt l ad val hcell _ ih =>
    rw [D.erase_pt]
    refine .pt _ ad val ?_ ?_
    · intro i c hi
      simp only [List.getElem?_map,Option.map_eq_some_iff] at hi
      obtain ⟨c0,hi,rfl⟩:=hi
      exact hcell i c0 hi
    · intro i c hi
      simp only [List.getElem?_map,Option.map_eq_some_iff] at hi
      obtain ⟨c0,hi,rfl⟩:=hi
      exact ih i c0 hi
  | fn f first caps fs us hs fv hf hfv hrf hrd _ _=>rw [D.erase_fn]; exact .fn f first caps fs us hs fv hf hfv hrf hrd
  | any x u h1=>rw [D.erase]; exact .any x u h1

theorem ownsRow_cell {W:World} {base e sz n:Nat} {u:Value} {cells:List Value} (h:W.ownsRow base e sz u n cells) (hn:0 < n):∃ g cap,u=.slice (some ⟨g,0,none⟩) n cap∧n≤cap∧cap≤maxLen∧∀ k v,cells[k]?=some v→W.cell? ((⟨g,0,none⟩:Addr).add k)=some v:=by
  rcases h.2 with ⟨_,h0⟩ | ⟨g,cap,cur,rfl,_,hg,h1,h2,h3,h4⟩
  · omega
  · refine ⟨g,cap,rfl,h1,h2,fun k v hk=>?_⟩
    have hk2:cur[k]?=some v:=by
      rw [← h4,List.getElem?_take] at hk
      split at hk
      · simpa using hk
      · cases hk
    have e1:((⟨g,0,none⟩:Addr).add k)=⟨g,k,none⟩:=by unfold Addr.add; split<;>simp_all
    rw [e1]
    simp [World.cell?,hg,hk2]

theorem Ow.read {W:World} {Z S:Nat→Prop} {d:D} {u:Value} (h:Ow W Z S d u):Rd W (fun b=>Z b∨S b) d.erase u:=by
  induction h with
  | rd S d u h=>exact (h.mono fun b hb=>.inl hb).erase
  | sl S e sz l u cells T val hrow hmax hS hT hdis hlen hcell _ ih =>
    rw [D.erase_sl]
    have hl:(l.map fun x=>x.map D.erase).length=l.length:=List.length_map _
    have hform:∃ A cap,u=.slice A l.length cap∧l.length≤cap:=by
      rcases hrow.2 with ⟨rfl,h0⟩ | ⟨g,cap,cur,rfl,_,hg,h1,h2,h3,h4⟩
      · exact ⟨none,0,by rw [h0],by omega⟩
      · exact ⟨_,cap,rfl,h1⟩
    obtain ⟨A,cap,rfl,hcap⟩:=hform
    have key:Rd W (fun b=>Z b∨S b) (.sl false e sz (l.map fun x=>x.map D.erase)) (.slice A (l.map fun x=>x.map D.erase).length cap):=by
      refine .sl e sz _ A cap val (by rw [hl]; exact hcap) (by rw [hl]; exact hmax) ?_ ?_ ?_
      · intro j el hj
        simp only [List.getElem?_map,Option.map_eq_some_iff] at hj
        obtain ⟨el0,hj,rfl⟩:=hj
        rw [List.length_map]; exact hlen j el0 hj
      · intro j el i c hj hi
        simp only [List.getElem?_map,Option.map_eq_some_iff] at hj
        obtain ⟨el0,hj,rfl⟩:=hj
        simp only [List.getElem?_map,Option.map_eq_some_iff] at hi
        obtain ⟨c0,hi,rfl⟩:=hi
        have hn:0 < l.length:=by
          have:=(List.getElem?_eq_some_iff.1 hj).1
          omega
        obtain ⟨g,cap',he,_,_,hc⟩:=ownsRow_cell hrow hn
        simp only [Value.slice.injEq] at he
        obtain ⟨rfl,_,_⟩:=he
        exact ⟨_,rfl,.inr (hS g rfl),hc _ _ (hcell j el0 i c0 hj hi)⟩
      · intro j el i c hj hi
        simp only [List.getElem?_map,Option.map_eq_some_iff] at hj
        obtain ⟨el0,hj,rfl⟩:=hj
        simp only [List.getElem?_map,Option.map_eq_some_iff] at hi
        obtain ⟨c0,hi,rfl⟩:=hi
        exact (ih j el0 i c0 hj hi).mono fun b hb=>hb.imp id fun hb=>(hT j i b hb).1
    rw [hl] at key
    exact key
  | pt S l g us t T hblk hs hg hT hdis _ ih =>
    rw [D.erase_pt]
    refine .pt _ _ (fun i=>us.getD i undef) ?_ ?_
    · intro i c hi
      simp only [List.getElem?_map,Option.map_eq_some_iff] at hi
      obtain ⟨c0,hi,rfl⟩:=hi
      have h1:=(List.getElem?_eq_some_iff.1 hi).1
      refine ⟨.inr hg,?_⟩
      have e1:((⟨g,0,none⟩:Addr).add i)=⟨g,i,none⟩:=by unfold Addr.add; split<;>simp_all
      rw [e1]
      have h2:i < us.size:=by omega
      simp [World.cell?,hblk,h2,Array.getD]
    · intro i c hi
      simp only [List.getElem?_map,Option.map_eq_some_iff] at hi
      obtain ⟨c0,hi,rfl⟩:=hi
      exact (ih i c0 hi).mono fun b hb=>hb.imp id fun hb=>(hT i b hb).1
end Go.Ev

namespace Go.Ev

abbrev Id:=List Nat

inductive C where
  | d (x:D)
  | view (r:Id) (m:Nat) (x:D)
  | ref (r:Id) (k:Nat)
  | cut (r:Id) (k n:Nat)
  | ptr (r:Id) (k:Nat) (off:Nat)
  | eptr (r:Id) (k:Nat) (i off:Nat)
  | clo (f:FuncId) (first:List (Bool × List C)) (caps:List C)
  | part (r:Id) (k m i off:Nat)
  | ppart (r:Id) (k m i off j:Nat)
  | both (c c':C)
  | bad

inductive SV where
  | one (c:C)
  | agg (l:List C)
  | tup (l:List SV)
  | bad

inductive O where
  | box (cells:List C)
  | row (e sz:Nat) (l:List (List D))

abbrev Heap:=Id→Option (Nat × Nat × O)

structure St where
  slots:Nat→SV
  H:Heap

structure Ext (M:Nat→Prop) (w W:World):Prop where
  os:W.os=w.os
  tape:W.tape=w.tape
  output:W.output=w.output
  size:w.heap.size≤W.heap.size
  block:∀ b,b < w.heap.size→¬ M b→W.heap[b]?=w.heap[b]?

theorem Ext.refl (M:Nat→Prop) (w:World):Ext M w w:=⟨rfl,rfl,rfl,Nat.le_refl _,fun _ _ _=>rfl⟩
theorem Ext.trans {M M':Nat→Prop} {w w1 w2:World} (h:Ext M w w1) (h':Ext M' w1 w2) (hm:∀ b,M' b→M b∨w.heap.size≤b):Ext M w w2 :=
  ⟨h'.os.trans h.os,h'.tape.trans h.tape,h'.output.trans h.output,Nat.le_trans h.size h'.size,fun b hb hn =>
    (h'.block b (Nat.lt_of_lt_of_le hb h.size) (fun h0=>(hm b h0).elim hn (fun h1=>by omega))).trans (h.block b hb hn)⟩

structure In where
  W:World
  Z:Nat→Prop
  hd:Id→Value
  S:Id→Nat→Prop
  U:Nat→Prop
  H:Heap

inductive Cok (I:In):C→Value→Prop where
  | d (x:D) (u:Value) (h:Rd I.W I.Z x u):Cok I (.d x) u
  | view (r:Id) (m:Nat) (x:D) (u:Value) (hu:I.U m) (h1:u.oneCell'=true)
      (h:∀ k o,I.H r=some (k,m,o)→Rd I.W (fun b=>I.Z b∨I.S r b) x u):Cok I (.view r m x) u
  | ref (r:Id) (k:Nat) (u:Value) (hu:I.U k) (h1:u.oneCell'=true) (h:∀ m o,I.H r=some (k,m,o)→u=I.hd r):Cok I (.ref r k) u
  | cut (r:Id) (k n:Nat) (u:Value) (hu:I.U k) (h1:u.oneCell'=true) (h:∀ m o,I.H r=some (k,m,o)→∃ A N c,I.hd r=.slice A N c∧u=.slice A n c∧n≤N):Cok I (.cut r k n) u
  | ptr (r:Id) (k off g:Nat) (hu:I.U k) (h:∀ m o,I.H r=some (k,m,o)→I.hd r=.pointer (some ⟨g,0,none⟩)):Cok I (.ptr r k off) (.pointer (some ⟨g,off,none⟩))
  | eptr (r:Id) (k i off g p:Nat) (hu:I.U k) (h:∀ m e sz l,I.H r=some (k,m,.row e sz l)→∃ n c,I.hd r=.slice (some ⟨g,0,none⟩) n c∧p=i * sz+off) :
      Cok I (.eptr r k i off) (.pointer (some ⟨g,p,none⟩))
  | clo (f:FuncId) (first:List (Bool × List C)) (caps:List C) (fs us:Array Value) (hs:us.size=caps.length) (fv:Nat→Nat→Value)
      (hf:fs.size=first.length) (hfv:∀ (i:Nat) (x:Bool × List C),first[i]?=some x→fs.getD i undef=mkV x.1 x.2.length (fv i)∧(x.1=false→x.2.length=1))
      (hrf:∀ (i:Nat) (x:Bool × List C) (j:Nat) (c:C),first[i]?=some x→x.2[j]?=some c→Cok I c (fv i j))
      (h:∀ (i:Nat) (c:C),caps[i]?=some c→Cok I c (us.getD i undef)):Cok I (.clo f first caps) (.func (.func f) fs us)
  | part (r:Id) (k m i off:Nat) (u:Value) (hk:I.U k) (hm:I.U m) (h1:u.oneCell'=true)
      (h:∀ e sz l,I.H r=some (k,m,.row e sz l)→∃ g n c,I.hd r=.slice (some ⟨g,0,none⟩) n c∧(I.Z g∨I.S r g)∧off < sz∧I.W.cell? ⟨g,i * sz+off,none⟩=some u):Cok I (.part r k m i off) u
  | ppart (r:Id) (k m i off j g n c:Nat) (h:Cok I (.part r k m i off) (.slice (some ⟨g,0,none⟩) n c)):Cok I (.ppart r k m i off j) (.pointer (some ⟨g,j,none⟩))
  | both (c c':C) (u:Value) (h:Cok I c u) (h':Cok I c' u):Cok I (.both c c') u
  | bad (u:Value) (h1:u.oneCell'=true):Cok I .bad u

inductive SVok (I:In):SV→Value→Prop where
  | one (c:C) (u:Value) (h:Cok I c u):SVok I (.one c) u
  | agg (l:List C) (us:Array Value) (hs:us.size=l.length) (h:∀ (i:Nat) (c:C),l[i]?=some c→Cok I c (us.getD i undef)):SVok I (.agg l) (.agg us)
  | tup (l:List SV) (us:Array Value) (hs:us.size=l.length) (h:∀ (i:Nat) (s:SV),l[i]?=some s→SVok I s (us.getD i undef)):SVok I (.tup l) (.tuple us)
  | bad (u:Value):SVok I .bad u

def Ook (I:In) (r:Id):O→Prop
  | .box cells=>∃ g us t,I.hd r=.pointer (some ⟨g,0,none⟩)∧I.S r g∧I.W.heap[g]?=some (.cells us t (0,0))∧us.size=cells.length ∧
      ∀ (i:Nat) (c:C),cells[i]?=some c→Cok I c (us.getD i undef)
  | .row e sz l=>Ow I.W I.Z (I.S r) (.sl true e sz l) (I.hd r)

structure Later (I J:In):Prop where
  z:∀ b,I.Z b→J.Z b∧J.W.heap[b]?=I.W.heap[b]?
  u:∀ m,I.U m→J.U m
  k:∀ r k m o',J.H r=some (k,m,o')→I.U k→∃ m0 o,I.H r=some (k,m0,o)∧J.hd r=I.hd r∧(∀ e sz l',o'=.row e sz l'→∃ l,o=.row e sz l)
  m:∀ r k m o',J.H r=some (k,m,o')→I.U m→(∃ k0 o,I.H r=some (k0,m,o))∧∀ b,I.S r b→(J.S r b∨J.Z b)∧J.W.heap[b]?=I.W.heap[b]?

theorem Rd.one {W:World} {Z:Nat→Prop} {d:D} {u:Value} (h:Rd W Z d u):u.oneCell'=true:=by cases h<;>first | rfl | assumption
theorem Ow.one {W:World} {Z S:Nat→Prop} {d:D} {u:Value} (h:Ow W Z S d u):u.oneCell'=true:=by
  cases h with
  | rd _ _ _ h=>exact h.one
  | sl _ e sz l _ cells T val hrow =>
    rcases hrow.2 with ⟨rfl,_⟩ | ⟨g,cap,cur,rfl,_⟩<;>rfl
  | pt=>rfl
theorem Cok.one {I:In} {c:C} {u:Value} (h:Cok I c u):u.oneCell'=true:=by
  induction h with
  | d _ _ h=>exact h.one
  | both _ _ _ _ _ ih _=>exact ih
  | _=>first | rfl | assumption

theorem Cok.later {I J:In} (hl:Later I J) {c:C} {u:Value} (h:Cok I c u):Cok J c u:=by
  induction h with
  | d x u h=>exact .d x u (h.move hl.z)
  | view r m x u hu h1 h =>
    refine .view r m x u (hl.u m hu) h1 fun k o' ho=>?_
    obtain ⟨⟨k0,o,h2⟩,h3⟩:=hl.m r k m o' ho hu
    refine (h k0 o h2).move fun b hb=>?_
    rcases hb with hb | hb
    · exact ⟨.inl (hl.z b hb).1,(hl.z b hb).2⟩
    · exact ⟨(h3 b hb).1.symm,(h3 b hb).2⟩
  | ref r k u hu h1 h =>
    refine .ref r k u (hl.u k hu) h1 fun m o' ho=>?_
    obtain ⟨m0,o,h2,h3,_⟩:=hl.k r k m o' ho hu
    rw [h3]; exact h m0 o h2
  | cut r k n u hu h1 h =>
    refine .cut r k n u (hl.u k hu) h1 fun m o' ho=>?_
    obtain ⟨m0,o,h2,h3,_⟩:=hl.k r k m o' ho hu
    rw [h3]; exact h m0 o h2
  | ptr r k off g hu h =>
    refine .ptr r k off g (hl.u k hu) fun m o' ho=>?_
    obtain ⟨m0,o,h2,h3,_⟩:=hl.k r k m o' ho hu
    rw [h3]; exact h m0 o h2
  | eptr r k i off g p hu h =>
    refine .eptr r k i off g p (hl.u k hu) fun m e sz l' ho=>?_
    obtain ⟨m0,o,h2,h3,h4⟩:=hl.k r k m _ ho hu
    obtain ⟨l,rfl⟩:=h4 e sz l' rfl
    rw [h3]; exact h m0 e sz l h2
  | clo f first caps fs us hs fv hf hfv _ _ ih1 ih2=>exact .clo f first caps fs us hs fv hf hfv ih1 ih2
  | part r k m i off u hk hm h1 h =>
    refine .part r k m i off u (hl.u k hk) (hl.u m hm) h1 fun e sz l ho=>?_
    obtain ⟨m0,o,h2,h3,h4⟩:=hl.k r k m _ ho hk
    obtain ⟨⟨k0,o2,h5⟩,h6⟩:=hl.m r k m _ ho hm
    obtain ⟨l0,rfl⟩:=h4 e sz l rfl
    rw [h2] at h5
    simp only [Option.some.injEq,Prod.mk.injEq] at h5
    obtain ⟨rfl,rfl,rfl⟩:=h5
    obtain ⟨g,n,c,h7,h8,h9,h10⟩:=h e sz l0 h2
    have hb:(J.Z g∨J.S r g)∧J.W.heap[g]?=I.W.heap[g]?:=by
      rcases h8 with h8 | h8
      · exact ⟨.inl (hl.z g h8).1,(hl.z g h8).2⟩
      · exact ⟨(h6 g h8).1.symm,(h6 g h8).2⟩
    exact ⟨g,n,c,by rw [h3]; exact h7,hb.1,h9,by rw [← h10]; exact World.cell?_of_block hb.2⟩
  | ppart r k m i off j g n c _ ih=>exact .ppart r k m i off j g n c ih
  | both c c' u _ _ ih ih'=>exact .both c c' u ih ih'
  | bad u h1=>exact .bad u h1

theorem SVok.later {I J:In} (hl:Later I J) {s:SV} {u:Value} (h:SVok I s u):SVok J s u:=by
  induction h with
  | one c u h=>exact .one c u (h.later hl)
  | agg l us hs h=>exact .agg l us hs fun i c hi=>(h i c hi).later hl
  | tup l us hs _ ih=>exact .tup l us hs ih
  | bad u=>exact .bad u

theorem Ook.later {I J:In} (hl:Later I J) {r:Id} {o:O} (h:Ook I r o) (hh:J.hd r=I.hd r) (hs:∀ b,I.S r b→J.S r b∧J.W.heap[b]?=I.W.heap[b]?):Ook J r o:=by
  cases o with
  | box cells =>
    obtain ⟨g,us,t,h1,h2,h3,h4,h5⟩:=h
    exact ⟨g,us,t,hh.trans h1,(hs g h2).1,((hs g h2).2).trans h3,h4,fun i c hi=>(h5 i c hi).later hl⟩
  | row e sz l =>
    show Ow _ _ _ _ _
    rw [hh]
    exact (Ow.move h hl.z fun b hb=>(hs b hb).2).mono fun b hb=>(hs b hb).1

class Lay where
  gl:List (Nat × List D)
variable [Lay]

def Laid (w:World) (Z:Nat→Prop):Prop:=∀ p∈Lay.gl,Z p.1∧∀ (i:Nat) (c:D),p.2[i]?=some c→∃ v,w.cell? ⟨p.1,i,none⟩=some v∧Rd w Z c v

structure Mz where
  m:Nat→Prop
  z:Nat→Prop
  h:Id→Value

structure RelI (w:World) (M:Mz) (n:Nat) (I:In) (s:St) (a:Act):Prop where
  hH:I.H=s.H
  ext:Ext M.m w I.W
  size:a.tmps.size=n
  defers:a.defers=[]
  zone:∀ b,I.Z b→b < I.W.heap.size
  zlo:∀ b,M.z b→I.Z b
  zhi:∀ b,I.Z b→M.z b∨M.m b∨w.heap.size≤b
  zm:∀ b,M.z b→b < w.heap.size∧¬ M.m b
  laid:Laid w M.z
  u0:I.U 0
  hdr:∀ r m o,I.H r=some (0,m,o)→I.hd r=M.h r
  slots:∀ i,SVok I (s.slots i) (a.tmps.getD i undef)
  objs:∀ r k m o,I.H r=some (k,m,o)→I.U k∧I.U m∧Ook I r o
  sets:∀ r x,I.H r=some x→∀ b,I.S r b→b < I.W.heap.size∧¬ I.Z b∧(M.m b∨w.heap.size≤b)
  disj:∀ r r' x x',r≠r'→I.H r=some x→I.H r'=some x'→∀ b,I.S r b→¬ I.S r' b

def Rel (w:World) (M:Mz) (n:Nat) (U:Nat→Prop) (s:St) (a:Act) (W:World):Prop :=
  ∃ I:In,I.W=W∧I.U=U∧RelI w M n I s a

def St.put (s:St) (d:Nat) (v:SV):St:={ s with slots:=fun i=>if i=d then v else s.slots i }
def St.obj (s:St) (r:Id) (x:Option (Nat × Nat × O)):St:={ s with H:=fun r'=>if r'=r then x else s.H r' }

theorem put_getD (a:Act) (d i:Nat) (v:Value) (hd:d < a.tmps.size):(a.put (some d) v).tmps.getD i undef=if i=d then v else a.tmps.getD i undef:=by
  simp only [Act.put,Array.getD_eq_getD_getElem?,Array.getElem?_setIfInBounds]
  by_cases h:i=d
  · subst h; simp [hd]
  · rw [if_neg (fun e=>h e.symm),if_neg h]
theorem put_size (a:Act) (d:Option Nat) (v:Value):(a.put d v).tmps.size=a.tmps.size:=by cases d<;>simp [Act.put]
theorem put_defers (a:Act) (d:Option Nat) (v:Value):(a.put d v).defers=a.defers:=by cases d<;>rfl

theorem RelI.put {w:World} {M:Mz} {n:Nat} {I:In} {s:St} {a:Act} (h:RelI w M n I s a) {d:Nat} (hd:d < n) {v:SV} {u:Value} (hv:SVok I v u) :
    RelI w M n I (s.put d v) (a.put (some d) u) :=
  { hH:=h.hH,ext:=h.ext,size:=(put_size _ _ _).trans h.size,defers:=(put_defers _ _ _).trans h.defers,zone:=h.zone,zlo:=h.zlo,zhi:=h.zhi,zm:=h.zm,laid:=h.laid,u0:=h.u0,hdr:=h.hdr,objs:=h.objs,sets:=h.sets,disj:=h.disj
    slots:=fun i=>by
      rw [put_getD _ _ _ _ (h.size ▸ hd)]
      by_cases e:i=d
      · simp only [St.put,e,if_true]; exact hv
      · simp only [St.put,if_neg e]; exact h.slots i }

theorem RelI.world {w:World} {M:Mz} {n:Nat} {I:In} {s:St} {a:Act} (h:RelI w M n I s a) {W':World} (hh:W'.heap=I.W.heap) (h1:W'.os=I.W.os) (h2:W'.tape=I.W.tape) (h3:W'.output=I.W.output) :
    RelI w M n { I with W:=W' } s a:=by
  have hl:Later I { I with W:=W' }:=⟨fun b hb=>⟨hb,by rw [hh]⟩,fun _ h=>h,fun r k m o' ho _=>⟨m,o',ho,rfl,fun e sz l he=>⟨l,he⟩⟩,fun r k m o' ho _=>⟨⟨k,o',ho⟩,fun b hb=>⟨.inl hb,by rw [hh]⟩⟩⟩
  exact { hH := h.hH, size := h.size, defers := h.defers
          ext:=⟨h1.trans h.ext.os,h2.trans h.ext.tape,h3.trans h.ext.output,by rw [hh]; exact h.ext.size,fun b hb hn=>by rw [hh]; exact h.ext.block b hb hn⟩
          zone:=fun b hb=>by rw [hh]; exact h.zone b hb
          zlo:=h.zlo,zhi:=h.zhi,zm:=h.zm,laid:=h.laid,u0:=h.u0,hdr:=h.hdr
          slots:=fun i=>(h.slots i).later hl
          objs:=fun r k m o ho=>⟨(h.objs r k m o ho).1,(h.objs r k m o ho).2.1,(h.objs r k m o ho).2.2.later hl rfl fun b hb=>⟨hb,by rw [hh]⟩⟩
          sets:=fun r x hx b hb=>by rw [hh]; exact h.sets r x hx b hb
          disj:=h.disj }
end Go.Ev

namespace Go.Ev
variable [Lay]

structure Chg (Ch:Id→Prop) (I J:In):Prop where
  same:∀ q,¬ Ch q→J.H q=I.H q∧J.hd q=I.hd q∧J.S q=I.S q
  z:∀ b,I.Z b→J.Z b
  u:∀ m,I.U m→J.U m
  ext:Ext (fun b=>∃ q x,Ch q∧I.H q=some x∧I.S q b) I.W J.W
  stamps:∀ q k m o,Ch q→J.H q=some (k,m,o)→¬ I.U m∧J.U m∧J.U k ∧
    (¬ I.U k∨∃ m0 o0,I.H q=some (k,m0,o0)∧J.hd q=I.hd q∧(∀ e sz l',o=.row e sz l'→∃ l,o0=.row e sz l))
  sets:∀ q x,Ch q→J.H q=some x→∀ b,J.S q b→b < J.W.heap.size∧¬ J.Z b∧((∃ q' x',Ch q'∧I.H q'=some x'∧I.S q' b)∨I.W.heap.size≤b)
  disj:∀ q q' x x',q≠q'→Ch q→Ch q'→J.H q=some x→J.H q'=some x'→∀ b,J.S q b→¬ J.S q' b
  zone:∀ b,J.Z b→b < J.W.heap.size∧(I.Z b∨(∃ q x,Ch q∧I.H q=some x∧I.S q b)∨I.W.heap.size≤b)

section
variable {w:World} {M:Mz} {n:Nat} {I J:In} {s s':St} {a:Act} {Ch:Id→Prop}

theorem Chg.blk (c:Chg Ch I J) {b:Nat} (hb:b < I.W.heap.size) (hn:∀ q x,Ch q→I.H q=some x→¬ I.S q b):J.W.heap[b]?=I.W.heap[b]? :=
  c.ext.block b hb fun ⟨q,x,h1,h2,h3⟩=>hn q x h1 h2 h3

theorem Chg.later (h:RelI w M n I s a) (c:Chg Ch I J):Later I J where
  z:=fun b hb=>⟨c.z b hb,c.blk (h.zone b hb) fun q x _ hx hs=>(h.sets q x hx b hs).2.1 hb⟩
  u:=c.u
  k:=fun r k m o' ho hu=>by
    by_cases hc:Ch r
    · obtain ⟨_,_,_,h4⟩:=c.stamps r k m o' hc ho
      rcases h4 with h4 | ⟨m0,o0,h5,h6,h7⟩
      · exact absurd hu h4
      · exact ⟨m0,o0,h5,h6,h7⟩
    · obtain ⟨h1,h2,_⟩:=c.same r hc
      exact ⟨m,o',h1 ▸ ho,h2,fun e sz l' he=>⟨l',he⟩⟩
  m:=fun r k m o' ho hu=>by
    by_cases hc:Ch r
    · exact absurd hu (c.stamps r k m o' hc ho).1
    · obtain ⟨h1,_,h3⟩:=c.same r hc
      have ho':I.H r=some (k,m,o'):=h1 ▸ ho
      refine ⟨⟨k,o',ho'⟩,fun b hb=>⟨.inl (h3 ▸ hb),c.blk (h.sets r _ ho' b hb).1 fun q x hq hx hs=>?_⟩⟩
      have hne:r≠q:=fun e=>hc (e ▸ hq)
      exact h.disj r q _ x hne ho' hx b hb hs

theorem RelI.chg (h:RelI w M n I s a) (c:Chg Ch I J) (hH:J.H=s'.H) (hs:s'.slots=s.slots) (hook:∀ q k m o,Ch q→J.H q=some (k,m,o)→Ook J q o):RelI w M n J s' a where
  hH:=hH
  ext:=h.ext.trans c.ext fun b ⟨q,x,_,hx,hb⟩=>(h.sets q x hx b hb).2.2
  size:=h.size
  defers:=h.defers
  zone:=fun b hb=>(c.zone b hb).1
  zlo:=fun b hb=>c.z b (h.zlo b hb)
  zm:=h.zm
  laid:=h.laid
  u0:=c.u 0 h.u0
  hdr:=fun r m o ho=>by
    by_cases hc:Ch r
    · rcases (c.stamps r 0 m o hc ho).2.2.2 with h4 | ⟨m0,o0,h5,h6,_⟩
      · exact absurd h.u0 h4
      · exact h6.trans (h.hdr r m0 o0 h5)
    · obtain ⟨h1,h2,_⟩:=c.same r hc
      exact h2.trans (h.hdr r m o (h1 ▸ ho))
  zhi:=fun b hb=>by
    rcases (c.zone b hb).2 with h1 | ⟨q,x,_,hx,hs2⟩ | h1
    · exact h.zhi b h1
    · exact .inr (h.sets q x hx b hs2).2.2
    · exact .inr (.inr (Nat.le_trans h.ext.size h1))
  slots:=fun i=>by rw [hs]; exact (h.slots i).later (c.later h)
  objs:=fun r k m o ho=>by
    by_cases hc:Ch r
    · obtain ⟨_,h2,h3,_⟩:=c.stamps r k m o hc ho
      exact ⟨h3,h2,hook r k m o hc ho⟩
    · obtain ⟨h1,h2,h3⟩:=c.same r hc
      have ho':I.H r=some (k,m,o):=h1 ▸ ho
      obtain ⟨g1,g2,g3⟩:=h.objs r k m o ho'
      refine ⟨c.u k g1,c.u m g2,g3.later (c.later h) h2 fun b hb=>⟨h3 ▸ hb,c.blk (h.sets r _ ho' b hb).1 fun q x hq hx hs=>?_⟩⟩
      exact h.disj r q _ x (fun e=>hc (e ▸ hq)) ho' hx b hb hs
  sets:=fun r x hx b hb=>by
    by_cases hc:Ch r
    · obtain ⟨h1,h2,h3⟩:=c.sets r x hc hx b hb
      refine ⟨h1,h2,?_⟩
      rcases h3 with ⟨q,x',_,hx',hb'⟩ | h3
      · exact (h.sets q x' hx' b hb').2.2
      · exact .inr (Nat.le_trans h.ext.size h3)
    · obtain ⟨h1,_,h3⟩:=c.same r hc
      have hx':I.H r=some x:=h1 ▸ hx
      have hb':I.S r b:=h3 ▸ hb
      obtain ⟨g1,g2,g3⟩:=h.sets r x hx' b hb'
      refine ⟨Nat.lt_of_lt_of_le g1 c.ext.size,fun hz=>?_,g3⟩
      rcases (c.zone b hz).2 with h4 | ⟨q,x2,hq,hx2,hs2⟩ | h4
      · exact g2 h4
      · exact h.disj r q x x2 (fun e=>hc (e ▸ hq)) hx' hx2 b hb' hs2
      · omega
  disj:=fun r r' x x' hne hx hx' b hb hb'=>by
    have key:∀ r r' x x',r≠r'→J.H r=some x→J.H r'=some x'→J.S r b→J.S r' b→Ch r→¬ Ch r'→False:=by
      intro r r' x x' hne hx hx' hb hb' hc hc'
      obtain ⟨h1,_,h3⟩:=c.same r' hc'
      have hx2:I.H r'=some x':=h1 ▸ hx'
      have hb2:I.S r' b:=h3 ▸ hb'
      obtain ⟨_,_,h6⟩:=c.sets r x hc hx b hb
      rcases h6 with ⟨q,x3,hq,hx3,hs3⟩ | h6
      · exact h.disj r' q x' x3 (fun e=>hc' (e ▸ hq)) hx2 hx3 b hb2 hs3
      · have:=(h.sets r' x' hx2 b hb2).1; omega
    by_cases hc:Ch r<;>by_cases hc':Ch r'
    · exact c.disj r r' x x' hne hc hc' hx hx' b hb hb'
    · exact key r r' x x' hne hx hx' hb hb' hc hc'
    · exact key r' r x' x (Ne.symm hne) hx' hx hb' hb hc' hc
    · obtain ⟨h1,_,h3⟩:=c.same r hc
      obtain ⟨h1',_,h3'⟩:=c.same r' hc'
      exact h.disj r r' x x' hne (h1 ▸ hx) (h1' ▸ hx') b (h3 ▸ hb) (h3' ▸ hb')
end
end Go.Ev

namespace Go.Ev
variable [Lay]

inductive TK where
  | int (k:IntKind)
  | bool
  | str
  | st (fs:List (Nat × TypeId))
  | sl (e:TypeId)
  | ptr (e:TypeId)
  | fn
structure TI where
  k:TK
  size:Nat
  bytes:Nat
  zero:List Value

def TK.ok:TK→Option TypeDesc→Prop
  | .int k,u=>u=some (.int k)
  | .bool,u=>u=some .bool
  | .str,u=>u=some .string
  | .st fs,u=>∃ a:Array Field,u=some (.struct a)∧a.toList.map (fun f=>(f.offset,f.type))=fs
  | .sl e,u=>u=some (.slice e)
  | .ptr e,u=>u=some (.pointer e)
  | .fn,u=>∃ p r v,u=some (.func p r v)

structure TyOk (P:Program) (t:TypeId) (i:TI):Prop where
  und:i.k.ok (P.underlying t)
  info:(P.info? t).map (fun x=>(x.size,x.bytes,x.zero.map (·.cells.toList)))=some (i.size,i.bytes,some i.zero)

theorem TyOk.info' {P:Program} {t:TypeId} {i:TI} (h:TyOk P t i):∃ x z,P.info? t=some x∧x.size=i.size∧x.bytes=i.bytes∧x.zero=some z∧z.cells.toList=i.zero:=by
  obtain ⟨x,h1,h2⟩:=Option.map_eq_some_iff.1 h.info
  simp only [Prod.mk.injEq] at h2
  obtain ⟨h2,h3,h4⟩:=h2
  obtain ⟨z,h5,h6⟩:=Option.map_eq_some_iff.1 h4
  exact ⟨x,z,h1,h2,h3,h5,h6⟩
theorem TyOk.sizeOf {P:Program} {t:TypeId} {i:TI} (h:TyOk P t i) (w:World):(Go.sizeOf t).run P w=.ok i.size w:=by
  obtain ⟨x,z,h1,h2,_⟩:=h.info'
  simp [Go.sizeOf,typeInfo,h1,h2]
theorem TyOk.zeroValue {P:Program} {t:TypeId} {i:TI} (h:TyOk P t i) (w:World):∃ z,(Go.zeroValue t).run P w=.ok z w∧z.cells.toList=i.zero:=by
  obtain ⟨x,z,h1,_,_,h4,h5⟩:=h.info'
  exact ⟨z,by simp [Go.zeroValue,typeInfo,h1,h4],h5⟩
def TK.agg:TK→Bool
  | .st _=>true
  | _=>false
theorem TyOk.isAgg {P:Program} {t:TypeId} {i:TI} (h:TyOk P t i) (w:World):(Go.isAgg t).run P w=.ok i.k.agg w:=by
  have hu:=h.und
  cases hk:i.k with
  | fn=>rw [hk] at hu; obtain ⟨p,r,v,hu⟩:=hu; simp [Go.isAgg,underlying,hu,TK.agg]
  | st fs=>rw [hk] at hu; obtain ⟨a,hu,_⟩:=hu; simp [Go.isAgg,underlying,hu,TK.agg]
  | _=>rw [hk] at hu; simp only [TK.ok] at hu; simp [Go.isAgg,underlying,hu,TK.agg]

/-! ### states: evaluation and updates -/

def constSV:Value→SV
  | .agg _=>.bad
  | .tuple _=>.bad
  | v=>.one (.d (.v v))
def St.eval (s:St):Operand→SV
  | .tmp t=>s.slots t
  | .const v=>constSV v
  | .global g=>match Lay.gl.lookup g with
    | some l=>.one (.d (.pt false l))
    | none=>.one (.d (.v (.pointer (some ⟨g,0,none⟩))))
  | .func f=>.one (.d (.fn f [] []))
theorem constSV_ok (I:In) (v:Value):SVok I (constSV v) v:=by
  cases v<;>first | exact .bad _ | exact .one _ _ (.d _ _ (.v _ rfl))
theorem mem_look {l:List (Nat × List D)}:∀ {q:Nat} {x:List D},l.lookup q=some x→(q,x)∈l:=by
  induction l with
  | nil=>intro q x h; simp [List.lookup] at h
  | cons p l ih =>
    intro q x h
    obtain ⟨p1,p2⟩:=p
    by_cases e:q=p1
    · subst e; simp [List.lookup] at h; subst h; simp
    · rw [List.lookup,show (q == p1)=false by simpa using e] at h
      exact List.mem_cons_of_mem _ (ih h)
theorem RelI.eval {w:World} {M:Mz} {n:Nat} {I:In} {s:St} {a:Act} (h:RelI w M n I s a) (x:Operand):SVok I (s.eval x) (a.eval x):=by
  cases x with
  | tmp t=>exact h.slots t
  | const v=>exact constSV_ok I v
  | global g =>
    simp only [St.eval]
    cases hg:(Lay.gl.lookup g:Option (List D)) with
    | none=>exact .one _ _ (.d _ _ (.v _ rfl))
    | some l =>
      obtain ⟨h1,h2⟩:=h.laid (g,l) (mem_look hg)
      have hz:∀ b,M.z b→I.Z b∧I.W.heap[b]?=w.heap[b]?:=fun b hb=>⟨h.zlo b hb,h.ext.block b (h.zm b hb).1 (h.zm b hb).2⟩
      have hadd:∀ i,((⟨g,0,none⟩:Addr).add i)=⟨g,i,none⟩:=fun i=>by unfold Addr.add; split<;>simp_all
      refine .one _ _ (.d _ _ (.pt l ⟨g,0,none⟩ (fun i=>(w.cell? ⟨g,i,none⟩).getD undef) (fun i c hi=>?_) fun i c hi=>?_))
      · obtain ⟨v,h3,_⟩:=h2 i c hi
        refine ⟨(hz g h1).1,?_⟩
        have h5:I.W.cell? ⟨g,i,none⟩=w.cell? ⟨g,i,none⟩:=World.cell?_of_block (show I.W.heap[(⟨g,i,none⟩:Addr).block]?=w.heap[(⟨g,i,none⟩:Addr).block]? from (hz g h1).2)
        have h6:w.cell? ⟨g,i,none⟩=some v:=h3
        rw [hadd,h5,h6]; rfl
      · obtain ⟨v,h3,h4⟩:=h2 i c hi
        have h6:w.cell? ⟨g,i,none⟩=some v:=h3
        show Rd I.W I.Z c ((w.cell? ⟨g,i,none⟩).getD undef)
        rw [h6]; exact h4.move hz
  | func f =>
    refine .one _ _ (.d _ _ (.fn f [] [] #[] #[] rfl (fun _ _=>undef) rfl ?_ ?_ ?_))<;>intro i<;>simp

def St.upds (s:St):List (Id × Option (Nat × Nat × O))→St
  | []=>s
  | p::l=>(s.obj p.1 p.2).upds l
def St.putO (s:St) (d:Option Nat) (v:SV):St:=match d with | some d=>s.put d v | none=>s
def preOf (s:St):Operand→List (Nat × SV)
  | .tmp t=>[(t,s.slots t)]
  | _=>[]
def preOfs (s:St) (l:List Operand):List (Nat × SV):=l.flatMap (preOf s)
theorem eval_pre {s s0:St} {x:Operand} (h:∀ p∈preOf s0 x,s.slots p.1=p.2):s.eval x=s0.eval x:=by
  cases x with
  | tmp t=>exact h (t,s0.slots t) (by simp [preOf])
  | _=>rfl
theorem upds_slots (s:St) (l:List (Id × Option (Nat × Nat × O))):(s.upds l).slots=s.slots:=by
  induction l generalizing s with
  | nil=>rfl
  | cons p l ih=>rw [St.upds,ih]; rfl

def OpS (P:Program) (o:Oper) (k:Nat) (preS:List (Nat × SV)) (preH:List (Id × (Nat × Nat × O))) (out:SV) (upd:List (Id × Option (Nat × Nat × O))):Prop :=
  ∀ (w:World) (M:Mz) (n:Nat) (U:Nat→Prop) (s:St) (a:Act) (W:World) (next:Act→World→Prop) (Q:Exit→Act→World→Prop),
    (∀ p∈preS,s.slots p.1=p.2)→(∀ p∈preH,s.H p.1=some p.2)→¬ U k→(∀ d,o.dst=some d→d < n)→Rel w M n U s a W →
    (∀ a' W',Rel w M n (fun m=>U m∨m=k) ((s.upds upd).putO o.dst out) a' W'→next a' W')→o.wp P a W next Q

theorem RelI.putO {w:World} {M:Mz} {n:Nat} {I:In} {s:St} {a:Act} (h:RelI w M n I s a) (d:Option Nat) (hd:∀ d',d=some d'→d' < n) {v:SV} {u:Value} (hv:SVok I v u) :
    RelI w M n I (s.putO d v) (a.put d u):=by
  cases d with
  | none=>exact h
  | some d=>exact h.put (hd d rfl) hv

theorem RelI.used {w:World} {M:Mz} {n:Nat} {I:In} {s:St} {a:Act} (h:RelI w M n I s a) {U':Nat→Prop} (hu:∀ m,I.U m→U' m):RelI w M n { I with U:=U' } s a:=by
  have hl:Later I { I with U:=U' }:=⟨fun b hb=>⟨hb,rfl⟩,hu,fun r k m o' ho _=>⟨m,o',ho,rfl,fun e sz l he=>⟨l,he⟩⟩,fun r k m o' ho _=>⟨⟨k,o',ho⟩,fun b hb=>⟨.inl hb,rfl⟩⟩⟩
  exact { hH := h.hH, ext := h.ext, size := h.size, defers := h.defers, zone := h.zone, zlo := h.zlo, zhi := h.zhi, zm := h.zm, laid := h.laid, u0 := hu 0 h.u0, hdr := h.hdr, slots := fun i => (h.slots i).later hl
          objs:=fun r k m o ho=>⟨hu k (h.objs r k m o ho).1,hu m (h.objs r k m o ho).2.1,(h.objs r k m o ho).2.2.later hl rfl fun b hb=>⟨hb,rfl⟩⟩
          sets:=h.sets,disj:=h.disj }

theorem OpS.quiet {P:Program} {o:Oper} {k:Nat} {preS:List (Nat × SV)} {preH:List (Id × (Nat × Nat × O))} {out:SV}
    (h:∀ (w:World) (M:Mz) (n:Nat) (I:In) (s:St) (a:Act),(∀ p∈preS,s.slots p.1=p.2)→(∀ p∈preH,s.H p.1=some p.2)→RelI w M n I s a →
      ∃ u,SVok I out u∧(execOp a.eval o).run P I.W=.ok (.value u) I.W):OpS P o k preS preH out []:=by
  intro w M n U s a W next Q hS hH _ hd ⟨I,hW,hU,hr⟩ hn
  obtain ⟨u,hu,hrun⟩:=h w M n I s a hS hH hr
  subst hW
  rw [Oper.wp,hrun]
  refine hn _ _ ?_
  refine ⟨{ I with U:=fun m=>U m∨m=k },rfl,rfl,?_⟩
  exact (hr.putO o.dst hd hu).used fun m hm=>.inl (hU ▸ hm)

theorem OpS.move {P:Program} {o:Oper} (k:Nat) (s0:St) {x:Operand} (h:o.op=.move x∨o.op=.assign x):OpS P o k (preOf s0 x) [] (s0.eval x) []:=by
  refine .quiet fun w M n I s a hS _ hr=>⟨a.eval x,?_,?_⟩
  · rw [← eval_pre hS]; exact hr.eval x
  · rcases h with h | h<;>simp [execOp,h]
end Go.Ev

namespace Go.Ev
variable [Lay]

def SV.cells:SV→Option (List C)
  | .one c=>some [c]
  | .agg l=>some l
  | _=>none

theorem cells_of_one {u:Value} (h:u.oneCell'=true):u.cells=#[u]:=by cases u<;>first | rfl | simp [Value.oneCell'] at h

theorem SVok.cells {I:In} {s:SV} {u:Value} (h:SVok I s u) {l:List C} (hl:s.cells=some l) :
    u.cells.size=l.length∧∀ (i:Nat) (c:C),l[i]?=some c→Cok I c (u.cells.getD i undef):=by
  cases h with
  | one c u h =>
    simp only [SV.cells,Option.some.injEq] at hl
    subst hl
    rw [cells_of_one h.one]
    refine ⟨rfl,fun i c' hi=>?_⟩
    cases i with
    | zero=>simp at hi; subst hi; simpa using h
    | succ i=>simp at hi
  | agg l' us hs h =>
    simp only [SV.cells,Option.some.injEq] at hl
    subst hl
    exact ⟨hs,h⟩
  | tup=>simp [SV.cells] at hl
  | bad=>simp [SV.cells] at hl

def up {α:Type} (f:Id→α) (r:Id) (v:α):Id→α:=fun q=>if q=r then v else f q
theorem up_same {α:Type} (f:Id→α) (r:Id) (v:α):up f r v r=v:=by simp [up]
theorem up_ne {α:Type} (f:Id→α) {r q:Id} (v:α) (h:q≠r):up f r v q=f q:=by simp [up,h]

section
variable {w:World} {M:Mz} {n:Nat} {I:In} {s:St} {a:Act}

def In.add (I:In) (r:Id) (k:Nat) (o:O) (v:Value) (Sn:Nat→Prop) (W1:World):In :=
  ⟨W1,I.Z,up I.hd r v,up I.S r Sn,fun m=>I.U m∨m=k,up I.H r (some (k,k,o))⟩

theorem RelI.add (h:RelI w M n I s a) (r:Id) (k:Nat) (hk:¬ I.U k) (o:O) (v:Value) (Sn:Nat→Prop) (W1:World) (hext:Ext (fun _=>False) I.W W1)
    (hS:∀ b,Sn b→I.W.heap.size≤b∧b < W1.heap.size) (hook:Later I (I.add r k o v Sn W1)→Ook (I.add r k o v Sn W1) r o) :
    RelI w M n (I.add r k o v Sn W1) (s.obj r (some (k,k,o))) a∧Later I (I.add r k o v Sn W1):=by
  have c:Chg (fun q=>q=r) I (I.add r k o v Sn W1):=by
    refine { same:=fun q hq=>⟨up_ne _ _ hq,up_ne _ _ hq,up_ne _ _ hq⟩,z:=fun _ h=>h,u:=fun _ h=>.inl h,ext:=⟨hext.os,hext.tape,hext.output,hext.size,fun b hb _=>hext.block b hb id⟩,stamps:=?_,sets:=?_,disj:=?_,zone:=?_ }
    · intro q k' m o' hq ho
      subst hq
      rw [show (I.add q k o v Sn W1).H q=some (k,k,o) from up_same _ _ _] at ho
      simp only [Option.some.injEq,Prod.mk.injEq] at ho
      obtain ⟨rfl,rfl,rfl⟩:=ho
      exact ⟨hk,.inr rfl,.inr rfl,.inl hk⟩
    · intro q x hq _ b hb
      subst hq
      rw [show (I.add q k o v Sn W1).S q=Sn from up_same _ _ _] at hb
      exact ⟨(hS b hb).2,fun hz=>by have:=h.zone b hz; have:=(hS b hb).1; omega,.inr (hS b hb).1⟩
    · intro q q' _ _ hne hq hq' _ _ _ _
      exact absurd (hq.trans hq'.symm) hne
    · intro b hb
      exact ⟨Nat.lt_of_lt_of_le (h.zone b hb) hext.size,.inl hb⟩
  refine ⟨h.chg c ?_ rfl ?_,c.later h⟩
  · show up I.H r _=fun q=>_
    rw [h.hH]; rfl
  · intro q k' m o' hq ho
    subst hq
    rw [show (I.add q k o v Sn W1).H q=some (k,k,o) from up_same _ _ _] at ho
    simp only [Option.some.injEq,Prod.mk.injEq] at ho
    obtain ⟨_,_,rfl⟩:=ho
    exact hook (c.later h)

theorem ext_alloc (W:World) (o:Obj):Ext (fun _=>False) W (W.alloc o):=⟨rfl,rfl,rfl,by simp,fun b hb _=>heap_alloc_old W o hb⟩

theorem RelI.box (h:RelI w M n I s a) (r:Id) (k:Nat) (hk:¬ I.U k) (t:TypeId) (l:List C) (us:Array Value) (hs:us.size=l.length)
    (hc:∀ (i:Nat) (c:C),l[i]?=some c→Cok I c (us.getD i undef)) :
    ∃ J:In,J.W=I.W.alloc (.cells us t)∧J.U=(fun m=>I.U m∨m=k)∧RelI w M n J (s.obj r (some (k,k,.box l))) a∧SVok J (.one (.ptr r k 0)) (.pointer (some ⟨I.W.heap.size,0,none⟩)):=by
  obtain ⟨h1,hl⟩:=h.add r k hk (.box l) (.pointer (some ⟨I.W.heap.size,0,none⟩)) (fun b=>b=I.W.heap.size) (I.W.alloc (.cells us t)) (ext_alloc _ _)
    (fun b hb=>⟨by omega,by simp; omega⟩) (fun hl=>⟨I.W.heap.size,us,t,up_same _ _ _,by show up I.S r _ r _; rw [up_same],heap_alloc_new _ _,hs,fun i c hi=>(hc i c hi).later hl⟩)
  exact ⟨_,rfl,rfl,h1,.one _ _ (.ptr r k 0 _ (.inr rfl) fun m o _=>up_same _ _ _)⟩
end

theorem OpS.box {P:Program} {o:Oper} (k:Nat) (s0:St) {t:TypeId} {x:Operand} {d:Nat} {l:List C} (h:o.op=.box t x) (hd:o.dst=some d) (hl:(s0.eval x).cells=some l) :
    OpS P o k (preOf s0 x) [] (.one (.ptr [d] k 0)) [([d],some (k,k,.box l))]:=by
  intro w M n U s a W next Q hS _ hk hdn ⟨I,hW,hU,hr⟩ hn
  subst hW hU
  have he:=hr.eval x
  rw [eval_pre hS] at he
  obtain ⟨hs,hc⟩:=he.cells hl
  obtain ⟨J,hJ,hJU,hrJ,hv⟩:=hr.box [d] k hk t l _ hs hc
  have hrun:(execOp a.eval o).run P I.W=.ok (.value (.pointer (some ⟨I.W.heap.size,0,none⟩))) (I.W.alloc (.cells (a.eval x).cells t)):=by
    simp [execOp,h,Instr.box,newVar,newRow]
  rw [Oper.wp,hrun]
  refine hn _ _ ⟨J,hJ,hJU,?_⟩
  simp only [hd,St.putO,St.upds]
  exact hrJ.put (hdn d hd) hv

structure ZOk (P:Program) (t:TypeId) (i:TI):Prop where
  ok:TyOk P t i
  one:i.zero.all Value.oneCell'=true

def zcells (i:TI):List C:=i.zero.map fun v=>.d (.v v)

theorem OpS.alloc {P:Program} {o:Oper} (k:Nat) {t:TypeId} {i:TI} (ht:ZOk P t i) {d:Nat} (h:o.op=.alloc t) (hd:o.dst=some d) :
    OpS P o k [] [] (.one (.ptr [d] k 0)) [([d],some (k,k,.box (zcells i)))]:=by
  intro w M n U s a W next Q hS _ hk hdn ⟨I,hW,hU,hr⟩ hn
  subst hW hU
  obtain ⟨z,hz,hzc⟩:=ht.ok.zeroValue I.W
  obtain ⟨J,hJ,hJU,hrJ,hv⟩:=hr.box [d] k hk t (zcells i) z.cells (by simp [zcells,← hzc]) (by
    intro j c hj
    simp only [zcells,List.getElem?_map,Option.map_eq_some_iff] at hj
    obtain ⟨v,hj,rfl⟩:=hj
    have h1:v.oneCell'=true:=List.all_eq_true.1 ht.one v (List.mem_of_getElem? hj)
    rw [← hzc] at hj
    have h2:z.cells.getD j undef=v:=by simp at hj; simp [hj]
    rw [h2]
    exact .d _ _ (.v v h1))
  have hrun:(execOp a.eval o).run P I.W=.ok (.value (.pointer (some ⟨I.W.heap.size,0,none⟩))) (I.W.alloc (.cells z.cells t)):=by
    simp [execOp,h,Instr.alloc,hz,newVar,newRow]
  rw [Oper.wp,hrun]
  refine hn _ _ ⟨J,hJ,hJU,?_⟩
  simp only [hd,St.putO,St.upds]
  exact hrJ.put (hdn d hd) hv

/-! ### reading through pointers -/

def D.seen (r:Id) (m:Nat):D→C
  | .v y=>.d (.v y)
  | x=>.view r m x.erase

def D.lent (r:Id) (k m i o:Nat):D→C
  | .v y=>.d (.v y)
  | .sl true _ _ _=>.part r k m i o
  | x=>.view r m x.erase

def D.inZ:D→Bool
  | .v _=>true
  | .sl false _ _ _=>true
  | _=>false
theorem Ow.inZ {W:World} {Z S:Nat→Prop} {d:D} {u:Value} (h:Ow W Z S d u) (hz:d.inZ=true):Rd W Z d u:=by
  cases h with
  | rd _ _ _ h=>exact h
  | _=>simp [D.inZ] at hz
inductive At (s:St):C→List C→List (Id × (Nat × Nat × O))→Prop where
  | ptr (r:Id) (k off m:Nat) (cells:List C) (h:s.H r=some (k,m,.box cells)):At s (.ptr r k off) (cells.drop off) [(r,(k,m,.box cells))]
  | eptr (r:Id) (k i off m:Nat) (e sz:Nat) (l:List (List D)) (el:List D) (h:s.H r=some (k,m,.row e sz l)) (hi:l[i]?=some el) :
      At s (.eptr r k i off) ((el.drop off).map (D.seen r m)) [(r,(k,m,.row e sz l))]
  | lent (r:Id) (k i off m:Nat) (e sz:Nat) (l:List (List D)) (el:List D) (h:s.H r=some (k,m,.row e sz l)) (hi:l[i]?=some el) :
      At s (.eptr r k i off) (((el.drop off).zipIdx off).map fun p=>p.1.lent r k m i p.2) [(r,(k,m,.row e sz l))]
  | eptrZ (r:Id) (k i off m:Nat) (e sz:Nat) (l:List (List D)) (el:List D) (h:s.H r=some (k,m,.row e sz l)) (hi:l[i]?=some el) (hz:el.all D.inZ=true) :
      At s (.eptr r k i off) ((el.drop off).map .d) [(r,(k,m,.row e sz l))]
  | d (l:List D):At s (.d (.pt false l)) (l.map .d) []
  | view (r:Id) (k m:Nat) (o:O) (l:List D) (h:s.H r=some (k,m,o)):At s (.view r m (.pt false l)) (l.map (D.seen r m)) [(r,(k,m,o))]

theorem at_plain (g p j:Nat):((⟨g,p,none⟩:Addr).add j)=⟨g,p+j,none⟩:=by unfold Addr.add; split<;>simp_all

theorem Rd.seen {I:In} {r:Id} {m:Nat} (hu:I.U m) {x:D} {u:Value} (h:Rd I.W (fun b=>I.Z b∨I.S r b) x u):Cok I (x.seen r m) u:=by
  cases x with
  | v y=>cases h with | v _ h1=>exact .d _ _ (.v _ h1)
  | _=>exact .view r m _ u hu h.one fun _ _ _=>h.erase

theorem At.ok {w:World} {M:Mz} {n:Nat} {I:In} {s s0:St} {a:Act} (h:RelI w M n I s a) {c:C} {cs:List C} {pre:List (Id × (Nat × Nat × O))} (hat:At s0 c cs pre)
    (hpre:∀ p∈pre,s.H p.1=some p.2) {u:Value} (hc:Cok I c u):∃ ad,u=.pointer (some ad)∧∀ (j:Nat) (c':C),cs[j]?=some c'→∃ v,I.W.cell? (ad.add j)=some v∧Cok I c' v:=by
  cases hat with
  | ptr r k off m cells h0 =>
    have hH:I.H r=some (k,m,.box cells):=by rw [h.hH]; exact hpre (r,_) (by simp)
    cases hc with
    | ptr _ _ _ g hu hg =>
      have hg:=hg m _ hH
      obtain ⟨_,_,g',us,t,h1,h2,h3,h4,h5⟩:=h.objs r k m _ hH
      rw [hg] at h1
      simp only [Value.pointer.injEq,Option.some.injEq,Addr.mk.injEq] at h1
      obtain ⟨rfl,_,_⟩:=h1
      refine ⟨_,rfl,fun j c' hj=>?_⟩
      rw [List.getElem?_drop] at hj
      refine ⟨us.getD (off+j) undef,?_,h5 _ _ hj⟩
      rw [at_plain]
      have hlt:off+j < us.size:=by rw [h4]; exact (List.getElem?_eq_some_iff.1 hj).1
      simp [World.cell?,h3,hlt]
  | eptr r k i off m e sz l el h0 hi =>
    have hH:I.H r=some (k,m,.row e sz l):=by rw [h.hH]; exact hpre (r,_) (by simp)
    cases hc with
    | eptr _ _ _ _ g p hu hg =>
      obtain ⟨n',c',h1,rfl⟩:=hg m e sz l hH
      obtain ⟨_,hum,hook⟩:=h.objs r k m _ hH
      have hook:Ow I.W I.Z (I.S r) (.sl true e sz l) (I.hd r):=hook
      have hread:=hook.read
      rw [D.erase_sl,h1] at hread
      generalize hle:(l.map fun x=>x.map D.erase)=l' at hread
      refine ⟨_,rfl,fun j c'' hj=>?_⟩
      simp only [List.getElem?_map,List.getElem?_drop,Option.map_eq_some_iff] at hj
      obtain ⟨x,hj,rfl⟩:=hj
      have hi':l'[i]?=some (el.map D.erase):=by rw [← hle]; simp [hi]
      have hj':(el.map D.erase)[off+j]?=some x.erase:=by simp [hj]
      cases hread with
      | sl _ _ _ A cap val hcap hmax hlen hcell hrd =>
        obtain ⟨ad,h2,h3,h4⟩:=hcell i _ _ _ hi' hj'
        simp only [Option.some.injEq] at h2
        subst h2
        refine ⟨val i (off+j),?_,?_⟩
        · rw [at_plain] at h4 ⊢
          rw [← h4]; congr 2; omega
        · have h5:=hrd i _ _ _ hi' hj'
          cases x with
          | v y=>rw [D.erase_v] at h5; cases h5 with | v _ h6=>exact .d _ _ (.v _ h6)
          | _=>exact .view r m _ _ hum h5.one fun _ _ _=>h5
  | lent r k i off m e sz l el h0 hi =>
    have hH:I.H r=some (k,m,.row e sz l):=by rw [h.hH]; exact hpre (r,_) (by simp)
    cases hc with
    | eptr _ _ _ _ g p hu hg =>
      obtain ⟨n',c',h1,rfl⟩:=hg m e sz l hH
      obtain ⟨huk,hum,hook⟩:=h.objs r k m _ hH
      have hook:Ow I.W I.Z (I.S r) (.sl true e sz l) (I.hd r):=hook
      have hread:=hook.read
      rw [D.erase_sl,h1] at hread
      generalize hle:(l.map fun x=>x.map D.erase)=l' at hread
      refine ⟨_,rfl,fun j c'' hj=>?_⟩
      simp only [List.getElem?_map,List.getElem?_zipIdx,List.getElem?_drop,Option.map_eq_some_iff] at hj
      obtain ⟨_,⟨x,hj,rfl⟩,rfl⟩:=hj
      have hi':l'[i]?=some (el.map D.erase):=by rw [← hle]; simp [hi]
      have hj':(el.map D.erase)[off+j]?=some x.erase:=by simp [hj]
      cases hread with
      | sl _ _ _ A cap val hcap hmax hlen hcell hrd =>
        obtain ⟨ad,h2,h3,h4⟩:=hcell i _ _ _ hi' hj'
        simp only [Option.some.injEq] at h2
        subst h2
        have h6:I.W.cell? ⟨g,i * sz+(off+j),none⟩=some (val i (off+j)):=by
          rw [at_plain] at h4; rw [← h4]; congr 2<;>omega
        have hlt:off+j < sz:=by
          have:=hlen i _ hi'
          have h7:=(List.getElem?_eq_some_iff.1 hj').1
          omega
        refine ⟨val i (off+j),?_,?_⟩
        · rw [at_plain,← h6]; congr 2<;>omega
        · have h5:=hrd i _ _ _ hi' hj'
          cases x with
          | v y=>rw [D.erase_v] at h5; cases h5 with | v _ h6=>exact .d _ _ (.v _ h6)
          | sl q e1 sz1 l1 =>
            cases q with
            | true =>
              refine .part r k m i _ _ huk hum h5.one fun e' sz' l'' ho=>?_
              rw [hH] at ho
              simp only [Option.some.injEq,Prod.mk.injEq,O.row.injEq,true_and] at ho
              obtain ⟨rfl,rfl,_⟩:=ho
              exact ⟨g,_,_,h1,h3,by omega,h6⟩
            | false=>exact .view r m _ _ hum h5.one fun _ _ _=>h5
          | _=>exact .view r m _ _ hum h5.one fun _ _ _=>h5
  | eptrZ r k i off m e sz l el h0 hi hz =>
    have hH:I.H r=some (k,m,.row e sz l):=by rw [h.hH]; exact hpre (r,_) (by simp)
    cases hc with
    | eptr _ _ _ _ g p hu hg =>
      obtain ⟨n',c',h1,rfl⟩:=hg m e sz l hH
      obtain ⟨_,hum,hook⟩:=h.objs r k m _ hH
      have hook:Ow I.W I.Z (I.S r) (.sl true e sz l) (I.hd r):=hook
      rw [h1] at hook
      refine ⟨_,rfl,fun j c'' hj=>?_⟩
      simp only [List.getElem?_map,List.getElem?_drop,Option.map_eq_some_iff] at hj
      obtain ⟨x,hj,rfl⟩:=hj
      cases hook with
      | rd _ _ _ h2=>cases h2
      | sl _ _ _ _ _ cells T val hrow hmax hSb hTb hdis hlen hcell how =>
        have hn:0 < l.length:=by
          have:=(List.getElem?_eq_some_iff.1 hi).1
          omega
        obtain ⟨g',cap',he,_,_,hc⟩:=ownsRow_cell hrow hn
        simp only [Value.slice.injEq,Option.some.injEq,Addr.mk.injEq] at he
        obtain ⟨⟨rfl,_⟩,_⟩:=he
        have h3:=hc _ _ (hcell i el (off+j) x hi hj)
        refine ⟨val i (off+j),?_,.d _ _ ((how i el (off+j) x hi hj).inZ (List.all_eq_true.1 hz x (List.mem_of_getElem? hj)))⟩
        rw [at_plain] at h3 ⊢
        rw [← h3]; congr 2; omega
  | d l =>
    cases hc with
    | d _ _ hc =>
      cases hc with
      | pt _ ad val hcell hrd =>
        refine ⟨ad,rfl,fun j c' hj=>?_⟩
        simp only [List.getElem?_map,Option.map_eq_some_iff] at hj
        obtain ⟨x,hj,rfl⟩:=hj
        exact ⟨val j,(hcell j x hj).2,.d _ _ (hrd j x hj)⟩
  | view r k m o l h0 =>
    have hH:I.H r=some (k,m,o):=by rw [h.hH]; exact hpre (r,_) (by simp)
    cases hc with
    | view _ _ _ _ hu h1 hc =>
      have hc:=hc k o hH
      cases hc with
      | pt _ ad val hcell hrd =>
        refine ⟨ad,rfl,fun j c' hj=>?_⟩
        simp only [List.getElem?_map,Option.map_eq_some_iff] at hj
        obtain ⟨x,hj,rfl⟩:=hj
        exact ⟨val j,(hcell j x hj).2,(hrd j x hj).seen hu⟩

theorem loads {P:Program} {I:In} {t:TypeId} {i:TI} (ht:TyOk P t i) {ad:Addr} {cs:List C} (h:∀ (j:Nat) (c':C),cs[j]?=some c'→∃ v,I.W.cell? (ad.add j)=some v∧Cok I c' v) :
    (i.k.agg=true→i.size≤cs.length→∃ u,(loadVar t ad).run P I.W=.ok u I.W∧SVok I (.agg (cs.take i.size)) u) ∧
    (i.k.agg=false→∀ c,cs[0]?=some c→∃ u,(loadVar t ad).run P I.W=.ok u I.W∧SVok I (.one c) u):=by
  constructor
  · intro hag hle
    have hf:∀ j,j < i.size→∃ v,I.W.cell? (ad.add j)=some v∧∀ c,cs[j]?=some c→Cok I c v:=by
      intro j hj
      obtain ⟨v,h1,h2⟩:=h j cs[j] (List.getElem?_eq_getElem (by omega))
      exact ⟨v,h1,fun c hc=>by rw [List.getElem?_eq_getElem (by omega)] at hc; cases hc; exact h2⟩
    have hv:∃ f:Nat→Value,∀ j,j < i.size→I.W.cell? (ad.add j)=some (f j)∧∀ c,cs[j]?=some c→Cok I c (f j):=by
      refine ⟨fun j=>(I.W.cell? (ad.add j)).getD undef,fun j hj=>?_⟩
      obtain ⟨v,h1,h2⟩:=hf j hj
      simp only [h1,Option.getD_some]; exact ⟨trivial,h2⟩
    obtain ⟨f,hf⟩:=hv
    have hl:=run_loadCells (P:=P) (w:=I.W) ad i.size f fun j hj=>(hf j hj).1
    refine ⟨_,by simp [loadVar,ht.isAgg,hag,ht.sizeOf,hl]; rfl,.agg _ _ (by simp; omega) fun j c hj=>?_⟩
    rw [List.getElem?_take] at hj
    split at hj
    · rename_i hlt
      have:=(hf j hlt).2 c hj
      simpa [hlt] using this
    · cases hj
  · intro hag c hc
    obtain ⟨v,h1,h2⟩:=h 0 c hc
    have e:ad.add 0=ad:=by simp [Addr.add]
    rw [e] at h1
    exact ⟨v,by simp [loadVar,ht.isAgg,hag,h1],.one _ _ h2⟩

def loadSV (i:TI) (cs:List C):SV:=if i.k.agg then .agg (cs.take i.size) else .one (cs.headD .bad)

theorem OpS.load {P:Program} {o:Oper} (k:Nat) (s0:St) {t:TypeId} {i:TI} (ht:TyOk P t i) {x:Operand} {c:C} {cs:List C} {pre:List (Id × (Nat × Nat × O))}
    (h:o.op=.load t x) (hx:s0.eval x=.one c) (hat:At s0 c cs pre) (hsz:i.size≤cs.length) (h0:0 < cs.length):OpS P o k (preOf s0 x) pre (loadSV i cs) []:=by
  refine .quiet fun w M n I s a hS hH hr=>?_
  have he:=hr.eval x
  rw [eval_pre hS,hx] at he
  cases he with
  | one _ _ hc =>
    obtain ⟨ad,hu,hcs⟩:=hat.ok hr hH hc
    obtain ⟨h1,h2⟩:=loads ht hcs
    have hrun:∀ u,(loadVar t ad).run P I.W=.ok u I.W→(execOp a.eval o).run P I.W=.ok (.value u) I.W:=by
      intro u h
      simp [execOp,‹o.op=_›,Instr.loadAt,hu,Instr.sureAddr,h]
    cases hag:i.k.agg with
    | true =>
      obtain ⟨u,h3,h4⟩:=h1 hag hsz
      exact ⟨u,by simpa [loadSV,hag] using h4,hrun u h3⟩
    | false =>
      obtain ⟨c',hc'⟩:∃ c',cs[0]?=some c':=⟨cs[0],List.getElem?_eq_getElem h0⟩
      obtain ⟨u,h3,h4⟩:=h2 hag c' hc'
      refine ⟨u,?_,hrun u h3⟩
      have e:cs.headD .bad=c':=by cases cs with | nil=>simp at h0 | cons y l=>simpa using hc'
      rw [loadSV,if_neg (by simp [hag]),e]; exact h4
end Go.Ev

namespace Go.Ev
variable [Lay]

theorem splice_get {α:Type} (c l:List α) (off i:Nat) (h:off+l.length≤c.length) :
    (c.take off++l++c.drop (off+l.length))[i]?=if i < off then c[i]? else if i < off+l.length then l[i - off]? else c[i]?:=by
  have h1:(c.take off).length=off:=by simp; omega
  rw [List.append_assoc]
  by_cases hi:i < off
  · rw [if_pos hi,List.getElem?_append_left (by omega),List.getElem?_take,if_pos hi]
  · rw [if_neg hi,List.getElem?_append_right (by omega),h1]
    by_cases hi2:i < off+l.length
    · rw [if_pos hi2,List.getElem?_append_left (by omega)]
    · rw [if_neg hi2,List.getElem?_append_right (by omega),List.getElem?_drop]
      congr 1; omega

section
variable {w:World} {M:Mz} {n:Nat} {I:In} {s:St} {a:Act}

def In.upd (I:In) (r:Id) (ks:List Id) (k m:Nat) (o:O) (v:Value) (Sn:Nat→Prop) (W1:World):In :=
  ⟨W1,I.Z,up I.hd r v,up I.S r Sn,fun q=>I.U q∨q=m,fun q=>if q=r then some (k,m,o) else if q∈ks then none else I.H q⟩

def updOf (r:Id) (ks:List Id) (x:Nat × Nat × O):List (Id × Option (Nat × Nat × O)):=ks.map (fun q=>(q,none))++[(r,some x)]

theorem upds_append (s:St) (l l':List (Id × Option (Nat × Nat × O))):s.upds (l++l')=(s.upds l).upds l':=by
  induction l generalizing s with
  | nil=>rfl
  | cons p l ih=>exact ih _
theorem upds_none (s:St) (ks:List Id) (q:Id):(s.upds (ks.map fun q=>(q,none))).H q=if q∈ks then none else s.H q:=by
  induction ks generalizing s with
  | nil=>simp [St.upds]
  | cons p l ih =>
    simp only [List.map_cons,St.upds,ih,List.mem_cons]
    by_cases h:q∈l
    · simp [h]
    · by_cases e:q=p<;>simp [h,e,St.obj]
theorem upds_updOf (s:St) (r:Id) (ks:List Id) (x:Nat × Nat × O) (q:Id):(s.upds (updOf r ks x)).H q=if q=r then some x else if q∈ks then none else s.H q:=by
  rw [updOf,upds_append]
  simp only [St.upds,St.obj,upds_none]

theorem RelI.upd (h:RelI w M n I s a) (r:Id) (ks:List Id) (k m:Nat) (hm:¬ I.U m) (o:O) (v:Value) (Sn:Nat→Prop) (W1:World)
    (hk:k=m∨∃ m0 o0,I.H r=some (k,m0,o0)∧v=I.hd r∧(∀ e sz l',o=.row e sz l'→∃ l,o0=.row e sz l))
    (hext:Ext (fun b=>∃ q x,(q=r∨q∈ks)∧I.H q=some x∧I.S q b) I.W W1)
    (hS:∀ b,Sn b→b < W1.heap.size∧((∃ q x,(q=r∨q∈ks)∧I.H q=some x∧I.S q b)∨I.W.heap.size≤b))
    (hook:Later I (I.upd r ks k m o v Sn W1)→Ook (I.upd r ks k m o v Sn W1) r o) :
    RelI w M n (I.upd r ks k m o v Sn W1) (s.upds (updOf r ks (k,m,o))) a∧Later I (I.upd r ks k m o v Sn W1):=by
  have c:Chg (fun q=>q=r∨q∈ks) I (I.upd r ks k m o v Sn W1):=by
    refine { same:=?_,z:=fun _ h=>h,u:=fun _ h=>.inl h,ext:=hext,stamps:=?_,sets:=?_,disj:=?_,zone:=?_ }
    · intro q hq
      have h1:q≠r:=fun e=>hq (.inl e)
      have h2:q ∉ ks:=fun e=>hq (.inr e)
      exact ⟨by simp [In.upd,h1,h2],up_ne _ _ h1,up_ne _ _ h1⟩
    · intro q k' m' o' hq ho
      by_cases e:q=r
      · subst e
        simp only [In.upd,if_true,Option.some.injEq,Prod.mk.injEq] at ho
        obtain ⟨rfl,rfl,rfl⟩:=ho
        refine ⟨hm,.inr rfl,?_,?_⟩
        · rcases hk with rfl | ⟨m0,o0,h1,_⟩
          · exact .inr rfl
          · exact .inl (h.objs q _ m0 o0 h1).1
        · rcases hk with rfl | ⟨m0,o0,h1,h2,h3⟩
          · exact .inl hm
          · exact .inr ⟨m0,o0,h1,by show up I.hd q v q=_; rw [up_same,h2],h3⟩
      · simp only [In.upd,if_neg e] at ho
        rcases hq with hq | hq
        · exact absurd hq e
        · simp [hq] at ho
    · intro q x hq hx b hb
      by_cases e:q=r
      · subst e
        rw [show (I.upd q ks k m o v Sn W1).S q=Sn from up_same _ _ _] at hb
        obtain ⟨h1,h2⟩:=hS b hb
        refine ⟨h1,fun hz=>?_,h2⟩
        rcases h2 with ⟨q',x',_,hx',hb'⟩ | h2
        · exact (h.sets q' x' hx' b hb').2.1 hz
        · have:=h.zone b hz; omega
      · simp only [In.upd,if_neg e] at hx
        rcases hq with hq | hq
        · exact absurd hq e
        · simp [hq] at hx
    · intro q q' x x' hne hq hq' hx hx' b hb hb'
      have key:∀ q x,(q=r∨q∈ks)→(I.upd r ks k m o v Sn W1).H q=some x→q=r:=by
        intro q x hq hx
        by_cases e:q=r
        · exact e
        · simp only [In.upd,if_neg e] at hx
          rcases hq with hq | hq
          · exact hq
          · simp [hq] at hx
      exact hne ((key q x hq hx).trans (key q' x' hq' hx').symm)
    · intro b hb
      exact ⟨Nat.lt_of_lt_of_le (h.zone b hb) hext.size,.inl hb⟩
  refine ⟨h.chg c ?_ (upds_slots _ _) ?_,c.later h⟩
  · funext q
    rw [upds_updOf,← h.hH]
    rfl
  · intro q k' m' o' hq ho
    by_cases e:q=r
    · subst e
      simp only [In.upd,if_true,Option.some.injEq,Prod.mk.injEq] at ho
      obtain ⟨_,_,rfl⟩:=ho
      exact hook (c.later h)
    · simp only [In.upd,if_neg e] at ho
      rcases hq with hq | hq
      · exact absurd hq e
      · simp [hq] at ho

theorem ext_setRow (W:World) (g:Nat) (cs:Array Value) (S:Nat→Prop) (hg:S g):Ext S W (W.setRow g cs) :=
  ⟨rfl,rfl,rfl,by simp [World.setRow],fun b _ hn=>setRow_other W g b cs fun e=>hn (e ▸ hg)⟩

theorem RelI.store (h:RelI w M n I s a) {r:Id} {k m0:Nat} {cells:List C} (hH:I.H r=some (k,m0,.box cells)) (m:Nat) (hm:¬ I.U m) (off:Nat) (l:List C) (us:Array Value)
    (hs:us.size=l.length) (hc:∀ (i:Nat) (c:C),l[i]?=some c→Cok I c (us.getD i undef)) (hoff:off+l.length≤cells.length) :
    ∃ (g:Nat) (cur:Array Value) (t:TypeId) (J:In),I.hd r=.pointer (some ⟨g,0,none⟩)∧I.W.heap[g]?=some (.cells cur t (0,0))∧cur.size=cells.length ∧
      J.W=I.W.setRow g (cur.toList.take off++us.toList++cur.toList.drop (off+us.size)).toArray∧J.U=(fun q=>I.U q∨q=m) ∧
      RelI w M n J (s.upds (updOf r [] (k,m,.box (cells.take off++l++cells.drop (off+l.length))))) a:=by
  obtain ⟨_,_,g,cur,t,h1,h2,h3,h4,h5⟩:=h.objs r k m0 _ hH
  have hsz:(cur.toList.take off++us.toList++cur.toList.drop (off+us.size)).toArray.size=(cells.take off++l++cells.drop (off+l.length)).length:=by
    simp; omega
  obtain ⟨hJ,_⟩:=h.upd r [] k m hm (.box (cells.take off++l++cells.drop (off+l.length))) (I.hd r) (I.S r) (I.W.setRow g (cur.toList.take off++us.toList++cur.toList.drop (off+us.size)).toArray)
    (.inr ⟨m0,_,hH,rfl,fun e sz l' he=>by cases he⟩)
    (ext_setRow _ _ _ _ ⟨r,_,.inl rfl,hH,h2⟩)
    (fun b hb=>⟨by have:=(h.sets r _ hH b hb).1; simpa [World.setRow] using this,.inl ⟨r,_,.inl rfl,hH,hb⟩⟩)
    (fun hl=>by
      refine ⟨g,_,t,(up_same _ _ _).trans h1,by show up I.S r _ r g; rw [up_same]; exact h2,setRow_heap _ _ _ _ _ _ h3,hsz,fun i c hi=>?_⟩
      have e0:(cur.toList.take off++us.toList++cur.toList.drop (off+us.size)).toArray.getD i undef=((cur.toList.take off++us.toList++cur.toList.drop (off+us.toList.length))[i]?).getD undef:=by simp
      rw [e0,splice_get _ _ _ _ (by simp; omega)]
      rw [splice_get _ _ _ _ hoff] at hi
      have hle:us.toList.length=l.length:=by simpa using hs
      rw [hle]
      by_cases g1:i < off
      · rw [if_pos g1] at hi ⊢
        have:=h5 i c hi
        simpa using this.later hl
      · rw [if_neg g1] at hi ⊢
        by_cases g2:i < off+l.length
        · rw [if_pos g2] at hi ⊢
          have:=hc (i - off) c hi
          simpa using this.later hl
        · rw [if_neg g2] at hi ⊢
          have:=h5 i c hi
          simpa using this.later hl)
  exact ⟨g,cur,t,_,h1,h3,h4,rfl,rfl,hJ⟩
end

theorem preOfs_two {s s0:St} {x y:Operand} (h:∀ p∈preOf s0 x++preOf s0 y,s.slots p.1=p.2):s.eval x=s0.eval x∧s.eval y=s0.eval y :=
  ⟨eval_pre fun p hp=>h p (List.mem_append.2 (.inl hp)),eval_pre fun p hp=>h p (List.mem_append.2 (.inr hp))⟩

theorem OpS.store {P:Program} {o:Oper} (st:Nat) (s0:St) {t:TypeId} {i:TI} (ht:TyOk P t i) {x y:Operand} {r:Id} {k off m0:Nat} {cells l:List C}
    (h:o.op=.store t x y) (hd:o.dst=none) (hx:s0.eval x=.one (.ptr r k off)) (hy:(s0.eval y).cells=some l) (hl:l.length=i.size)
    (hoff:off+l.length≤cells.length) :
    OpS P o st (preOf s0 x++preOf s0 y) [(r,(k,m0,.box cells))] .bad (updOf r [] (k,st,.box (cells.take off++l++cells.drop (off+l.length)))):=by
  intro w M n U s a W next Q hS hHs hk hdn ⟨I,hW,hU,hr⟩ hn
  subst hW hU
  obtain ⟨e1,e2⟩:=preOfs_two hS
  have hex:=hr.eval x
  have hey:=hr.eval y
  rw [e1,hx] at hex
  rw [e2] at hey
  obtain ⟨hs,hc⟩:=hey.cells hy
  have hHI:I.H r=some (k,m0,.box cells):=by rw [hr.hH]; exact hHs (r,_) (by simp)
  obtain ⟨g,cur,bt,J,h1,h2,h3,h4,h5,h6⟩:=hr.store hHI st hk off l (a.eval y).cells hs hc hoff
  cases hex with
  | one _ _ hcx =>
    generalize hp:a.eval x=px at hcx
    cases hcx with
    | ptr _ _ _ g' hu hg =>
      have hg:=hg m0 _ hHI
      rw [h1] at hg
      simp only [Value.pointer.injEq,Option.some.injEq,Addr.mk.injEq] at hg
      obtain ⟨rfl,_⟩:=hg
      have hone:∀ v∈(a.eval y).cells.toList,v.oneCell'=true:=by
        intro v hv
        obtain ⟨j,hj⟩:=List.mem_iff_getElem?.1 hv
        have hlt:j < l.length:=by have:=(List.getElem?_eq_some_iff.1 hj).1; simp at this; omega
        have:=(hc j l[j] (List.getElem?_eq_getElem hlt)).one
        simp at hj
        simpa [hj] using this
      have hst:=run_storeCells_at (P:=P) g off bt (a.eval y).cells.toList 0 cur I.W h2 (by simp; omega) hone
      have hrun:(execOp a.eval o).run P I.W=.ok .skip J.W:=by
        have hsz:(a.eval y).cells.size=i.size:=by omega
        simp only [execOp,h,Instr.storeAt,hp,Instr.sureAddr,storeVar]
        simp [ht.sizeOf,hsz,hst,h4]
      rw [Oper.wp,hrun]
      refine hn _ _ ⟨J,rfl,h5,?_⟩
      rw [hd]
      exact h6
end Go.Ev

namespace Go.Ev
variable [Lay]

inductive Fits (s:St):C→D→List (Id × (Nat × Nat × O))→Prop where
  | d (x:D):Fits s (.d x) x []
  | nil (m:Bool) (e sz:Nat):Fits s (.d (.v (.slice none 0 0))) (.sl m e sz []) []
  | ref (r:Id) (k m e sz:Nat) (l:List (List D)) (h:s.H r=some (k,m,.row e sz l)):Fits s (.ref r k) (.sl true e sz l) [(r,(k,m,.row e sz l))]

theorem Rd.nil (W:World) (Z:Nat→Prop) (e sz:Nat):Rd W Z (.sl false e sz []) (.slice none 0 0) :=
  .sl e sz [] none 0 (fun _ _=>undef) (by simp) (by simp [maxLen]) (by simp) (by simp) (by simp)
theorem Ow.nil (W:World) (Z S:Nat→Prop) (e sz:Nat):Ow W Z S (.sl true e sz []) (.slice none 0 0) :=
  .sl S e sz [] _ [] (fun _ _ _=>False) (fun _ _=>undef) ⟨by simp,.inl ⟨rfl,rfl⟩⟩ (by simp [maxLen]) (by simp [Value.ownBlock]) (by simp) (by simp) (by simp) (by simp) (by simp)

section
variable {w:World} {M:Mz} {n:Nat} {I:In} {s:St} {a:Act}

def In.sets (I:In) (ks:List (Id × (Nat × Nat × O))) (b:Nat):Prop:=∃ q x,(q,x)∈ks∧I.S q b

theorem Fits.ok (h:RelI w M n I s a) {s0:St} {c:C} {x:D} {ks:List (Id × (Nat × Nat × O))} (hf:Fits s0 c x ks) (hpre:∀ p∈ks,s.H p.1=some p.2) {u:Value} (hc:Cok I c u) :
    Ow I.W I.Z (I.sets ks) x u:=by
  cases hf with
  | d x=>cases hc with | d _ _ hc=>exact .rd _ _ _ hc
  | nil m e sz =>
    cases hc with
    | d _ _ hc =>
      cases hc with
      | v _ _ =>
        cases m with
        | false=>exact .rd _ _ _ (.nil _ _ _ _)
        | true=>exact .nil _ _ _ _ _
  | ref r k m e sz l h0 =>
    have hH:I.H r=some (k,m,.row e sz l):=by rw [h.hH]; exact hpre (r,_) (by simp)
    cases hc with
    | ref _ _ _ hu h1 hc =>
      rw [hc m _ hH]
      exact Ow.mono (h.objs r k m _ hH).2.2 fun b hb=>⟨r,(k,m,.row e sz l),by simp,hb⟩
end

structure Src (W:World) (Z:Nat→Prop) (sz:Nat) (S2:Nat→Prop) (l:List (List D)) (u:Value) (A:Option Addr) (c:Nat) (news:List Value) (val:Nat→Nat→Value) (T:Nat→Nat→Nat→Prop):Prop where
  u:u=.slice A l.length c
  len:news.length=l.length * sz
  max:l.length≤maxLen
  adr:l≠[]→A.isSome=true
  cells:∀ ad,A=some ad→∀ (k:Nat) (v:Value),news[k]?=some v→W.cell? (ad.add k)=some v
  size:∀ (j:Nat) (el:List D),l[j]?=some el→el.length=sz
  at_:∀ (j:Nat) (el:List D) (i:Nat) (x:D),l[j]?=some el→el[i]?=some x→news[j * sz+i]?=some (val j i)
  ow:∀ (j:Nat) (el:List D) (i:Nat) (x:D),l[j]?=some el→el[i]?=some x→Ow W Z (T j i) x (val j i)
  sub:∀ j i b,T j i b→S2 b
  disj:∀ j i j' i' b,T j i b→T j' i' b→j=j'∧i=i'

theorem div_mod_lt {k n sz:Nat} (h:k < n * sz):k / sz < n∧k % sz < sz∧k / sz * sz+k % sz=k:=by
  have hs:0 < sz:=by
    rcases Nat.eq_zero_or_pos sz with h0 | h0
    · subst h0; simp at h
    · exact h0
  exact ⟨Nat.div_lt_of_lt_mul (by rwa [Nat.mul_comm]),Nat.mod_lt _ hs,by rw [Nat.mul_comm]; exact Nat.div_add_mod k sz⟩

theorem Rd.src {W:World} {Z:Nat→Prop} {e sz:Nat} {l:List (List D)} {u:Value} (hsz:0 < sz) (h:Rd W Z (.sl false e sz l) u) :
    ∃ A c news val T,Src W Z sz (fun _=>False) l u A c news val T:=by
  cases h with
  | sl _ _ _ A cap val hcap hmax hlen hcell hrd =>
    have hget:∀ k,k < l.length * sz→∃ el x,l[k / sz]?=some el∧el[k % sz]?=some x:=by
      intro k hk
      obtain ⟨h1,h2,_⟩:=div_mod_lt hk
      refine ⟨l[k / sz],l[k / sz][k % sz]'(by rw [hlen _ _ (List.getElem?_eq_getElem h1)]; exact h2),List.getElem?_eq_getElem h1,List.getElem?_eq_getElem _⟩
    refine ⟨A,cap,(List.range (l.length * sz)).map fun k=>val (k / sz) (k % sz),val,fun _ _ _=>False,rfl,by simp,hmax,?_,?_,hlen,?_,fun j el i x hj hi=>.rd _ _ _ (hrd j el i x hj hi),fun _ _ _ h=>h.elim,fun _ _ _ _ _ h=>h.elim⟩
    · intro hne
      have hpos:0 < l.length:=List.length_pos_iff.2 hne
      obtain ⟨el,x,h1,h2⟩:=hget 0 (Nat.mul_pos hpos hsz)
      obtain ⟨ad,h3,_⟩:=hcell _ _ _ _ h1 h2
      rw [h3]; rfl
    · intro ad had k v hk
      simp only [List.getElem?_map,Option.map_eq_some_iff] at hk
      obtain ⟨k',hk,rfl⟩:=hk
      have hlt:k < l.length * sz:=by have:=(List.getElem?_eq_some_iff.1 hk).1; simpa using this
      have e1:k'=k:=by simp [hlt] at hk; exact hk.symm
      subst e1
      obtain ⟨el,x,h1,h2⟩:=hget k' hlt
      obtain ⟨ad',h3,_,h4⟩:=hcell _ _ _ _ h1 h2
      rw [had] at h3
      simp only [Option.some.injEq] at h3
      subst h3
      rw [(div_mod_lt hlt).2.2] at h4
      exact h4
    · intro j el i x hj hi
      have h1:j < l.length:=(List.getElem?_eq_some_iff.1 hj).1
      have h2:i < sz:=by rw [← hlen j el hj]; exact (List.getElem?_eq_some_iff.1 hi).1
      have h3:j * sz+i < l.length * sz:=by
        have:=Nat.mul_le_mul_right sz (show j+1≤l.length from h1)
        rw [Nat.add_mul] at this; omega
      simp only [List.getElem?_map,Option.map_eq_some_iff]
      refine ⟨j * sz+i,by simp [h3],?_⟩
      have e1:(j * sz+i) / sz=j:=by rw [Nat.mul_comm,Nat.mul_add_div hsz,Nat.div_eq_of_lt h2,Nat.add_zero]
      have e2:(j * sz+i) % sz=i:=by rw [Nat.mul_comm,Nat.mul_add_mod,Nat.mod_eq_of_lt h2]
      rw [e1,e2]

theorem Ow.src {W:World} {Z S:Nat→Prop} {e sz:Nat} {l:List (List D)} {u:Value} (h:Ow W Z S (.sl true e sz l) u) :
    ∃ A c news val T,Src W Z sz (fun b=>S b∧u.ownBlock≠some b) l u A c news val T:=by
  cases h with
  | rd _ _ _ h=>cases h
  | sl _ _ _ _ _ cells T val hrow hmax hS hT hdis hlen hcell how =>
    have hform:∃ A cap,u=.slice A l.length cap:=by
      rcases hrow.2 with ⟨rfl,h0⟩ | ⟨g,cap,cur,rfl,_⟩
      · exact ⟨none,0,by rw [h0]⟩
      · exact ⟨_,cap,rfl⟩
    obtain ⟨A,cap,hu⟩:=hform
    refine ⟨A,cap,cells,val,T,hu,hrow.1,hmax,?_,?_,hlen,hcell,how,fun j i b hb=>hT j i b hb,hdis⟩
    · intro hne
      obtain ⟨g,cap',he,_⟩:=ownsRow_cell hrow (List.length_pos_iff.2 hne)
      rw [hu] at he
      simp only [Value.slice.injEq] at he
      rw [he.1]; rfl
    · intro ad had k v hk
      have hpos:0 < l.length:=by
        have h1:=(List.getElem?_eq_some_iff.1 hk).1
        rw [hrow.1] at h1
        rcases Nat.eq_zero_or_pos l.length with h0 | h0
        · rw [h0] at h1; simp at h1
        · exact h0
      obtain ⟨g,cap',he,_,_,hc⟩:=ownsRow_cell hrow hpos
      rw [hu,had] at he
      simp only [Value.slice.injEq,Option.some.injEq] at he
      obtain ⟨rfl,_,_⟩:=he
      exact hc k v hk
end Go.Ev

namespace Go.Ev
variable [Lay]

theorem run_append_none {P:Program} (w:World) {t ty e:TypeId} {i:TypeInfo} (ht:P.underlying t=some (.slice e)) (hi:P.info? e=some i) (B:Option Addr) (n cap c:Nat) (hc:n≤cap) :
    (Builtin.append_ #[t,t] ty #[.slice B n cap,.slice none 0 c]).run P w=.ok (.slice B n cap) w:=by
  cases B<;>simp [Builtin.append_,run_underlying ht,sizeOf,typeInfo,hi,Builtin.lenOf,Builtin.firstCells,hc,storeCells]

theorem TyOk.slice {P:Program} {t:TypeId} {i:TI} (h:TyOk P t i) {e:TypeId} (hk:i.k=.sl e):P.underlying t=some (.slice e):=by
  have:=h.und; rw [hk] at this; exact this

theorem Ow.append {P:Program} {W:World} {Z S S2:Nat→Prop} {e sz:Nat} {l l2:List (List D)} {u u2:Value} {A:Option Addr} {c:Nat} {news:List Value} {val2:Nat→Nat→Value} {T2:Nat→Nat→Nat→Prop}
    {t:TypeId} (ty:TypeId) {it ie:TI} (ht:TyOk P t it) (hk:it.k=.sl e) (he:ZOk P e ie) (hsz:ie.size=sz) (h0:0 < sz) (hz:ie.zero.length=ie.size) (hb0:0 < ie.bytes)
    (h:Ow W Z S (.sl true e sz l) u) (src:Src W Z sz S2 l2 u2 A c news val2 T2) (hS:∀ b,S b→b < W.heap.size) (hS2:∀ b,S2 b→b < W.heap.size) (hZ:∀ b,Z b→b < W.heap.size∧¬ S b)
    (hdis:∀ b,S b→¬ S2 b) (hbytes:(l.length+l2.length) * ie.bytes≤140737488355328) :
    ∃ u' W',(Builtin.append_ #[t,t] ty #[u,u2]).run P W=.ok u' W'∧W.grownBy W' u.ownBlock∧(∀ k,u.ownBlock=some k→S k) ∧
      Ow W' Z (fun b=>S b∨S2 b∨(W.heap.size≤b∧b < W'.heap.size)) (.sl true e sz (l++l2)) u':=by
  subst hsz
  have hmax:l.length+l2.length≤maxLen:=by
    have h1:l.length+l2.length≤(l.length+l2.length) * ie.bytes:=Nat.le_mul_of_pos_right _ hb0
    simp only [maxLen]; omega
  obtain ⟨x,z,hi,hx1,hx2,hx3,hx4⟩:=he.ok.info'
  have hu:=ht.slice hk
  cases h with
  | rd _ _ _ h=>cases h
  | sl _ _ _ _ _ cells T val hrow hmx hSo hT hdi hlen hcell how =>
    have hrun:∃ u' W',(Builtin.append_ #[t,t] ty #[u,u2]).run P W=.ok u' W'∧W'.ownsRow 0 e ie.size u' (l.length+l2.length) (cells++news)∧W.grownBy W' u.ownBlock ∧
        (u'.ownBlock=u.ownBlock∨(u'.ownBlock=some W.heap.size∧W.heap.size < W'.heap.size)):=by
      rw [src.u]
      cases hA:A with
      | none =>
        have hl2:l2=[]:=by
          rcases List.eq_nil_or_concat l2 with h2 | ⟨_,_,h2⟩
          · exact h2
          · have:=src.adr (by rw [h2]; simp); rw [hA] at this; simp at this
        subst hl2
        have hn:news=[]:=List.eq_nil_of_length_eq_zero (by simpa using src.len)
        subst hn
        have hform:∃ B cap,u=.slice B l.length cap∧l.length≤cap:=by
          rcases hrow.2 with ⟨rfl,h0⟩ | ⟨g,cap,cur,rfl,_,_,h1,_⟩
          · exact ⟨none,0,by rw [h0],by omega⟩
          · exact ⟨_,cap,rfl,h1⟩
        obtain ⟨B,cap,rfl,hcap⟩:=hform
        exact ⟨_,W,run_append_none W hu hi B l.length cap c hcap,by simpa using hrow,⟨rfl,rfl,rfl,Nat.le_refl _,fun _ _ _=>rfl⟩,.inl rfl⟩
      | some ad =>
        have hnew:=src.cells ad hA
        have h1:∀ v∈news,v.oneCell'=true:=by
          intro v hv
          obtain ⟨k,hk'⟩:=List.mem_iff_getElem?.1 hv
          have hlt:k < l2.length * ie.size:=by rw [← src.len]; exact (List.getElem?_eq_some_iff.1 hk').1
          obtain ⟨g1,g2,g3⟩:=div_mod_lt hlt
          have hj:=List.getElem?_eq_getElem g1
          have hil:k % ie.size < l2[k / ie.size].length:=by rw [src.size _ _ hj]; exact g2
          have hi':=List.getElem?_eq_getElem hil
          have h3:=src.at_ _ _ _ _ hj hi'
          rw [g3,hk'] at h3
          simp only [Option.some.injEq] at h3
          rw [h3]
          exact (src.ow _ _ _ _ hj hi').one
        obtain ⟨v',W',hr,ho,hg,_,hat⟩:=run_append_own_at (P:=P) W 0 t ty e x z ie.size ie.bytes hu hi hx3 hx1 hx2 (by rw [← Array.length_toList,hx4,hz]) h0 u l.length cells hrow ad l2.length c news src.len
          hnew h1 hmax hbytes (Nat.zero_le _)
        refine ⟨v',W',hr,ho,hg,?_⟩
        rcases hat with hat | hat
        · exact .inl hat
        · refine .inr ⟨hat,?_⟩
          rcases ho.2 with ⟨rfl,_⟩ | ⟨g,cap,cur,rfl,_,hg',_⟩
          · simp [Value.ownBlock] at hat
          · simp only [Value.ownBlock,Option.some.injEq] at hat
            subst hat
            exact (Array.getElem?_eq_some_iff.1 hg').1
    obtain ⟨u',W',hr,ho,hg,hat⟩:=hrun
    refine ⟨u',W',hr,hg,hSo,?_⟩
    have hblk:∀ b,b < W.heap.size→u.ownBlock≠some b→W'.heap[b]?=W.heap[b]?:=fun b hb hn=>hg.block b hb fun e=>hn e.symm
    have hZ':∀ b,Z b→Z b∧W'.heap[b]?=W.heap[b]?:=fun b hb=>⟨hb,hblk b (hZ b hb).1 fun e=>(hZ b hb).2 (hSo b e)⟩
    have hcl:cells.length=l.length * ie.size:=hrow.1
    refine .sl _ e ie.size (l++l2) u' (cells++news) (fun j i=>if j < l.length then T j i else T2 (j - l.length) i) (fun j i=>if j < l.length then val j i else val2 (j - l.length) i)
      (by rw [List.length_append]; exact ho) (by rw [List.length_append]; exact hmax) ?_ ?_ ?_ ?_ ?_ ?_
    · intro b hb
      rcases hat with hat | ⟨hat,hlt⟩
      · exact .inl (hSo b (hat ▸ hb))
      · rw [hat] at hb
        simp only [Option.some.injEq] at hb
        subst hb
        exact .inr (.inr ⟨Nat.le_refl _,hlt⟩)
    · intro j i b hb
      by_cases hj:j < l.length
      · simp only [hj,if_true] at hb
        obtain ⟨h1,h2⟩:=hT j i b hb
        refine ⟨.inl h1,fun e=>?_⟩
        rcases hat with hat | ⟨hat,_⟩
        · exact h2 (hat ▸ e)
        · rw [hat] at e
          simp only [Option.some.injEq] at e
          have:=hS b h1; omega
      · simp only [hj,if_false] at hb
        have h1:=src.sub _ _ _ hb
        refine ⟨.inr (.inl h1),fun e=>?_⟩
        rcases hat with hat | ⟨hat,_⟩
        · rw [hat] at e
          exact hdis b (hSo b e) h1
        · rw [hat] at e
          simp only [Option.some.injEq] at e
          have:=hS2 b h1; omega
    · intro j i j' i' b hb hb'
      by_cases hj:j < l.length<;>by_cases hj':j' < l.length<;>simp only [hj,hj',if_true,if_false] at hb hb'
      · exact hdi j i j' i' b hb hb'
      · exact absurd (src.sub _ _ _ hb') (hdis b (hT j i b hb).1)
      · exact absurd (src.sub _ _ _ hb) (hdis b (hT j' i' b hb').1)
      · obtain ⟨h1,h2⟩:=src.disj _ _ _ _ b hb hb'
        exact ⟨by omega,h2⟩
    · intro j el hj
      by_cases hjl:j < l.length
      · rw [List.getElem?_append_left hjl] at hj; exact hlen j el hj
      · rw [List.getElem?_append_right (by omega)] at hj; exact src.size _ el hj
    · intro j el i x' hj hi'
      by_cases hjl:j < l.length
      · rw [List.getElem?_append_left hjl] at hj
        simp only [hjl,if_true]
        have h1:=hcell j el i x' hj hi'
        rw [List.getElem?_append_left (List.getElem?_eq_some_iff.1 h1).1]
        exact h1
      · rw [List.getElem?_append_right (by omega)] at hj
        simp only [hjl,if_false]
        have h1:=src.at_ _ el i x' hj hi'
        have h2:j * ie.size+i=cells.length+((j - l.length) * ie.size+i):=by
          rw [hcl,← Nat.add_assoc,← Nat.add_mul]; congr 2; omega
        rw [h2,List.getElem?_append_right (by omega),Nat.add_sub_cancel_left]
        exact h1
    · intro j el i x' hj hi'
      by_cases hjl:j < l.length
      · rw [List.getElem?_append_left hjl] at hj
        simp only [hjl,if_true]
        exact (how j el i x' hj hi').move hZ' fun b hb=>hblk b (hS b (hT j i b hb).1) (hT j i b hb).2
      · rw [List.getElem?_append_right (by omega)] at hj
        simp only [hjl,if_false]
        refine (src.ow _ el i x' hj hi').move hZ' fun b hb=>?_
        have h1:=src.sub _ _ _ hb
        exact hblk b (hS2 b h1) fun e=>hdis b (hSo b e) h1
end Go.Ev

namespace Go.Ev
variable [Lay]

def D.isV:D→Bool
  | .v _=>true
  | _=>false
def flat (l:List (List D)):Prop:=∀ el∈l,∀ x∈el,D.isV x=true

theorem Src.flat {W:World} {Z S2:Nat→Prop} {sz:Nat} {l:List (List D)} {u:Value} {A:Option Addr} {c:Nat} {news:List Value} {val:Nat→Nat→Value} {T:Nat→Nat→Nat→Prop}
    (h:Src W Z sz S2 l u A c news val T) (hf:flat l) (Z':Nat→Prop):Src W Z' sz (fun _=>False) l u A c news val (fun _ _ _=>False) :=
  { u:=h.u,len:=h.len,max:=h.max,adr:=h.adr,cells:=h.cells,size:=h.size,at_:=h.at_,sub:=fun _ _ _ h=>h.elim,disj:=fun _ _ _ _ _ h=>h.elim
    ow:=fun j el i x hj hi=>by
      have h1:=hf el (List.mem_of_getElem? hj) x (List.mem_of_getElem? hi)
      have h2:=h.ow j el i x hj hi
      cases x with
      | v y=>cases h2 with | rd _ _ _ h3=>cases h3 with | v _ h4=>exact .rd _ _ _ (.v _ h4)
      | _=>simp [D.isV] at h1 }

theorem Src.nil (W:World) (Z:Nat→Prop) (sz:Nat):Src W Z sz (fun _=>False) [] (.slice none 0 0) none 0 [] (fun _ _=>undef) (fun _ _ _=>False) where
  u:=rfl
  len:=by simp
  max:=by simp [maxLen]
  adr:=by simp
  cells:=by simp
  size:=by simp
  at_:=by simp
  ow:=by simp
  sub:=by simp
  disj:=by simp

inductive From (s:St) (sz:Nat):C→List (List D)→List (Id × (Nat × Nat × O))→List (Id × (Nat × Nat × O))→Prop where
  | ro (e:Nat) (l:List (List D)):From s sz (.d (.sl false e sz l)) l [] []
  | nil:From s sz (.d (.v (.slice none 0 0))) [] [] []
  | copy (r:Id) (k m e:Nat) (l:List (List D)) (h:s.H r=some (k,m,.row e sz l)) (hf:flat l):From s sz (.ref r k) l [(r,(k,m,.row e sz l))] []
  | take (r:Id) (k m e:Nat) (l:List (List D)) (h:s.H r=some (k,m,.row e sz l)):From s sz (.ref r k) l [(r,(k,m,.row e sz l))] [(r,(k,m,.row e sz l))]
  | view (r:Id) (k m e:Nat) (o:O) (l:List (List D)) (h:s.H r=some (k,m,o)) (hf:flat l):From s sz (.view r m (.sl false e sz l)) l [(r,(k,m,o))] []

section
variable {w:World} {M:Mz} {n:Nat} {I:In} {s:St} {a:Act}

theorem From.ok (h:RelI w M n I s a) {s0:St} {sz:Nat} (h0:0 < sz) {c:C} {l:List (List D)} {pre ks:List (Id × (Nat × Nat × O))} (hf:From s0 sz c l pre ks) (hpre:∀ p∈pre,s.H p.1=some p.2) {u:Value} (hc:Cok I c u) :
    (∀ p∈ks,p∈pre)∧∃ S2 A cap news val T,Src I.W I.Z sz S2 l u A cap news val T∧∀ b,S2 b→I.sets ks b:=by
  cases hf with
  | ro e l =>
    cases hc with
    | d _ _ hc =>
      obtain ⟨A,cap,news,val,T,hs⟩:=hc.src h0
      exact ⟨by simp,_,A,cap,news,val,T,hs,fun b h=>h.elim⟩
  | nil =>
    cases hc with
    | d _ _ hc =>
      cases hc
      exact ⟨by simp,_,_,_,_,_,_,.nil _ _ _,fun b h=>h.elim⟩
  | copy r k m e l hH hf =>
    have hH:I.H r=some (k,m,.row e sz l):=by rw [h.hH]; exact hpre (r,_) (by simp)
    cases hc with
    | ref _ _ _ hu h1 hc =>
      have ho:Ow I.W I.Z (I.S r) (.sl true e sz l) (I.hd r):=(h.objs r k m _ hH).2.2
      rw [← hc m _ hH] at ho
      obtain ⟨A,cap,news,val,T,hs⟩:=ho.src
      exact ⟨by simp,_,A,cap,news,val,_,hs.flat hf _,fun b h=>h.elim⟩
  | take r k m e l hH =>
    have hH:I.H r=some (k,m,.row e sz l):=by rw [h.hH]; exact hpre (r,_) (by simp)
    cases hc with
    | ref _ _ _ hu h1 hc =>
      have ho:Ow I.W I.Z (I.S r) (.sl true e sz l) (I.hd r):=(h.objs r k m _ hH).2.2
      rw [← hc m _ hH] at ho
      obtain ⟨A,cap,news,val,T,hs⟩:=ho.src
      exact ⟨by simp,_,A,cap,news,val,T,hs,fun b hb=>⟨r,(k,m,.row e sz l),by simp,hb.1⟩⟩
  | view r k m e o l hH hf =>
    have hH:I.H r=some (k,m,o):=by rw [h.hH]; exact hpre (r,_) (by simp)
    cases hc with
    | view _ _ _ _ hu h1 hc =>
      obtain ⟨A,cap,news,val,T,hs⟩:=(hc k o hH).src h0
      exact ⟨by simp,_,A,cap,news,val,_,hs.flat hf _,fun b h=>h.elim⟩

theorem ownsRow_take {W:World} {base e sz m N c:Nat} {A:Option Addr} {xs:List Value} (h:W.ownsRow base e sz (.slice A N c) N xs) (hm:m≤N):W.ownsRow base e sz (.slice A m c) m (xs.take (m * sz)):=by
  obtain ⟨h1,h2⟩:=h
  have hmn:m * sz≤N * sz:=Nat.mul_le_mul_right _ hm
  refine ⟨by rw [List.length_take,h1]; exact Nat.min_eq_left hmn,?_⟩
  rcases h2 with ⟨h2,h3⟩ | ⟨g,cap,cur,h2,h3,h4,h5,h6,h7,h8⟩
  · simp only [Value.slice.injEq] at h2
    obtain ⟨rfl,_,rfl⟩:=h2
    exact .inl ⟨by rw [show m=0 by omega],by omega⟩
  · simp only [Value.slice.injEq] at h2
    obtain ⟨rfl,_,rfl⟩:=h2
    exact .inr ⟨g,c,cur,rfl,h3,h4,by omega,h6,h7,by rw [← h8,List.take_take,Nat.min_eq_left hmn]⟩

theorem Ow.take {W:World} {Z S:Nat→Prop} {e sz N c m:Nat} {l:List (List D)} {A:Option Addr} (h:Ow W Z S (.sl true e sz l) (.slice A N c)) (hm:m≤l.length):Ow W Z S (.sl true e sz (l.take m)) (.slice A m c):=by
  cases h with
  | rd _ _ _ h=>cases h
  | sl _ _ _ _ _ cells T val hrow hmax hS hT hdis hlen hcell how =>
    have hN:N=l.length:=by
      rcases hrow.2 with ⟨h2,h3⟩ | ⟨g,cap,cur,h2,_⟩
      · simp only [Value.slice.injEq] at h2; omega
      · simp only [Value.slice.injEq] at h2; exact h2.2.1
    subst hN
    have hl:(l.take m).length=m:=by rw [List.length_take]; exact Nat.min_eq_left hm
    have hget:∀ (j:Nat) (el:List D),(l.take m)[j]?=some el→j < m∧l[j]?=some el:=by
      intro j el hj
      rw [List.getElem?_take] at hj
      split at hj
      · exact ⟨‹_›,hj⟩
      · cases hj
    have hb:∀ N N':Nat,(Value.slice A N c).ownBlock=(Value.slice A N' c).ownBlock:=by intro N N'; cases A<;>rfl
    refine .sl _ e sz _ _ (cells.take (m * sz)) T val (by rw [hl]; exact ownsRow_take hrow hm) (by rw [hl]; omega) (fun k hk=>hS k (hb l.length m ▸ hk)) (fun j i b h=>⟨(hT j i b h).1,hb l.length m ▸ (hT j i b h).2⟩) hdis (fun j el hj=>hlen j el (hget j el hj).2) ?_ (fun j el i x hj hi=>how j el i x (hget j el hj).2 hi)
    intro j el i x hj hi
    obtain ⟨h1,h2⟩:=hget j el hj
    have h3:=hcell j el i x h2 hi
    have h4:i < sz:=by rw [← hlen j el h2]; exact (List.getElem?_eq_some_iff.1 hi).1
    have h5:j * sz+i < m * sz:=by
      have:=Nat.mul_le_mul_right sz (show j+1≤m from h1)
      rw [Nat.add_mul] at this; omega
    rw [List.getElem?_take,if_pos h5]
    exact h3

inductive Onto (s:St) (d:Nat) (e sz:Nat):C→Id→List (List D)→List (Id × (Nat × Nat × O))→Prop where
  | nil:Onto s d e sz (.d (.v (.slice none 0 0))) [d] [] []
  | ref (r:Id) (k m:Nat) (l:List (List D)) (h:s.H r=some (k,m,.row e sz l)):Onto s d e sz (.ref r k) r l [(r,(k,m,.row e sz l))]
  | cut (r:Id) (k m j:Nat) (l:List (List D)) (h:s.H r=some (k,m,.row e sz l)) (hj:j≤l.length):Onto s d e sz (.cut r k j) r (l.take j) [(r,(k,m,.row e sz l))]

theorem Onto.ok (h:RelI w M n I s a) {s0:St} {d e sz:Nat} {c:C} {r:Id} {l:List (List D)} {pre:List (Id × (Nat × Nat × O))} (hf:Onto s0 d e sz c r l pre) (hpre:∀ p∈pre,s.H p.1=some p.2) {u:Value} (hc:Cok I c u) :
    ∃ S1,Ow I.W I.Z S1 (.sl true e sz l) u∧∀ b,S1 b→∃ x,I.H r=some x∧I.S r b:=by
  cases hf with
  | nil =>
    cases hc with
    | d _ _ hc=>cases hc; exact ⟨fun _=>False,.nil _ _ _ _ _,fun b h=>h.elim⟩
  | ref r k m l hH =>
    have hH:I.H r=some (k,m,.row e sz l):=by rw [h.hH]; exact hpre (r,_) (by simp)
    cases hc with
    | ref _ _ _ hu h1 hc =>
      rw [hc m _ hH]
      exact ⟨_,(h.objs r k m _ hH).2.2,fun b hb=>⟨_,hH,hb⟩⟩
  | cut r k m j l hH hj =>
    have hH:I.H r=some (k,m,.row e sz l):=by rw [h.hH]; exact hpre (r,_) (by simp)
    cases hc with
    | cut _ _ _ _ hu h1 hc =>
      obtain ⟨A,N,cap,h2,h3,h4⟩:=hc m _ hH
      have ho:Ow I.W I.Z (I.S r) (.sl true e sz l) (I.hd r):=(h.objs r k m _ hH).2.2
      rw [h2] at ho
      rw [h3]
      exact ⟨_,ho.take hj,fun b hb=>⟨_,hH,hb⟩⟩

theorem RelI.append {P:Program} (h:RelI w M n I s a) (ty:TypeId) {t e sz:Nat} {it ie:TI} (ht:TyOk P t it) (hk:it.k=.sl e) (he:ZOk P e ie) (hsz:ie.size=sz) (h0:0 < sz) (hz:ie.zero.length=ie.size) (hb0:0 < ie.bytes)
    (st:Nat) (hst:¬ I.U st) {r:Id} {ks:List Id} (hrk:r ∉ ks) {l l2:List (List D)} {u u2:Value} {S1 S2:Nat→Prop} {A:Option Addr} {c:Nat} {news:List Value} {val2:Nat→Nat→Value} {T2:Nat→Nat→Nat→Prop}
    (ho:Ow I.W I.Z S1 (.sl true e sz l) u) (h1:∀ b,S1 b→∃ x,I.H r=some x∧I.S r b) (src:Src I.W I.Z sz S2 l2 u2 A c news val2 T2) (h2:∀ b,S2 b→∃ q x,q∈ks∧I.H q=some x∧I.S q b)
    (hbytes:(l.length+l2.length) * ie.bytes≤140737488355328) :
    ∃ u' J,(Builtin.append_ #[t,t] ty #[u,u2]).run P I.W=.ok u' J.W∧J.U=(fun q=>I.U q∨q=st)∧RelI w M n J (s.upds (updOf r ks (st,st,.row e sz (l++l2)))) a∧SVok J (.one (.ref r st)) u':=by
  obtain ⟨u',W',hr,hg,hS,hO⟩:=ho.append (P:=P) ty ht hk he hsz h0 hz hb0 src (fun b hb=>by obtain ⟨x,hx,hb⟩:=h1 b hb; exact (h.sets r x hx b hb).1)
    (fun b hb=>by obtain ⟨q,x,_,hx,hb⟩:=h2 b hb; exact (h.sets q x hx b hb).1)
    (fun b hb=>⟨h.zone b hb,fun hs=>by obtain ⟨x,hx,hs⟩:=h1 b hs; exact (h.sets r x hx b hs).2.1 hb⟩)
    (fun b hb hb2=>by
      obtain ⟨x,hx,hb⟩:=h1 b hb
      obtain ⟨q,y,hq,hy,hb2⟩:=h2 b hb2
      exact h.disj r q x y (fun e=>hrk (e ▸ hq)) hx hy b hb hb2) hbytes
  have hin:∀ b,(S1 b∨S2 b)→∃ q x,(q=r∨q∈ks)∧I.H q=some x∧I.S q b:=by
    intro b hb
    rcases hb with hb | hb
    · obtain ⟨x,hx,hb⟩:=h1 b hb; exact ⟨r,x,.inl rfl,hx,hb⟩
    · obtain ⟨q,x,hq,hx,hb⟩:=h2 b hb; exact ⟨q,x,.inr hq,hx,hb⟩
  obtain ⟨hJ,_⟩:=h.upd r ks st st hst (.row e sz (l++l2)) u' (fun b=>S1 b∨S2 b∨(I.W.heap.size≤b∧b < W'.heap.size)) W' (.inl rfl)
    ⟨hg.os,hg.tape,hg.output,hg.size,fun b hb hn=>hg.block b hb fun e=>hn (hin b (.inl (hS b e.symm)))⟩
    (fun b hb=>by
      rcases hb with hb | hb | hb
      · obtain ⟨q,x,hq,hx,hs⟩:=hin b (.inl hb)
        exact ⟨Nat.lt_of_lt_of_le (h.sets q x hx b hs).1 hg.size,.inl ⟨q,x,hq,hx,hs⟩⟩
      · obtain ⟨q,x,hq,hx,hs⟩:=hin b (.inr hb)
        exact ⟨Nat.lt_of_lt_of_le (h.sets q x hx b hs).1 hg.size,.inl ⟨q,x,hq,hx,hs⟩⟩
      · exact ⟨hb.2,.inr hb.1⟩)
    (fun _=>by
      show Ow W' I.Z (up I.S r _ r) _ (up I.hd r u' r)
      rw [up_same,up_same]; exact hO)
  refine ⟨u',_,hr,rfl,hJ,.one _ _ (.ref r st u' (.inr rfl) hO.one fun m o _=>(up_same _ _ _).symm)⟩
end

def idsOf (ks:List (Id × (Nat × Nat × O))):List Id:=ks.map (·.1)

theorem OpS.append {P:Program} {o:Oper} (st:Nat) (s0:St) {t e sz:Nat} {it ie:TI} (ht:TyOk P t it) (hk:it.k=.sl e) (he:ZOk P e ie) (hsz:ie.size=sz) (h0:0 < sz) (hz:ie.zero.length=ie.size) (hb0:0 < ie.bytes)
    {x y:Operand} {d:Nat} {c c2:C} {r:Id} {l l2:List (List D)} {pre pre2 ks:List (Id × (Nat × Nat × O))}
    (h:o.op=.call { callee:=.builtin .append,args:=#[x,y],argTypes:=#[t,t] }) (hd:o.dst=some d) (hx:s0.eval x=.one c) (hy:s0.eval y=.one c2)
    (h1:Onto s0 d e sz c r l pre) (h2:From s0 sz c2 l2 pre2 ks) (hrk:r ∉ idsOf ks) (hbytes:(l.length+l2.length) * ie.bytes≤140737488355328) :
    OpS P o st (preOf s0 x++preOf s0 y) (pre++pre2) (.one (.ref r st)) (updOf r (idsOf ks) (st,st,.row e sz (l++l2))):=by
  intro w M n U s a W next Q hS hHs hst hdn ⟨I,hW,hU,hr⟩ hn
  subst hW hU
  obtain ⟨e1,e2⟩:=preOfs_two hS
  have hex:=hr.eval x
  have hey:=hr.eval y
  rw [e1,hx] at hex
  rw [e2,hy] at hey
  cases hex with
  | one _ _ hcx =>
  cases hey with
  | one _ _ hcy =>
    obtain ⟨S1,hO,hS1⟩:=h1.ok hr (fun p hp=>hHs p (List.mem_append.2 (.inl hp))) hcx
    obtain ⟨hsub,S2,A,cap,news,val,T,hsrc,hS2⟩:=h2.ok hr h0 (fun p hp=>hHs p (List.mem_append.2 (.inr hp))) hcy
    obtain ⟨u',J,hrun,hJU,hJ,hv⟩:=hr.append (P:=P) o.type ht hk he hsz h0 hz hb0 st hst hrk hO hS1 hsrc (fun b hb=>by
      obtain ⟨q,x',hq,hb⟩:=hS2 b hb
      refine ⟨q,x',List.mem_map.2 ⟨_,hq,rfl⟩,?_,hb⟩
      rw [hr.hH]
      exact hHs _ (List.mem_append.2 (.inr (hsub _ hq)))) hbytes
    have hrun':(execOp a.eval o).run P I.W=.ok (.value u') J.W:=by
      simp [execOp,h,resolve,invoke,builtin,hrun]
    rw [Oper.wp,hrun']
    refine hn _ _ ⟨J,rfl,hJU,?_⟩
    rw [hd]
    exact hJ.put (hdn d hd) hv
end Go.Ev

namespace Go.Ev
variable [Lay]

theorem splice_fold (vs:List Value):∀ (cs:Array Value) (off k:Nat),off+k+vs.length≤cs.size →
    ((vs.zipIdx k).foldl (fun (cs:Array Value) (p:Value × Nat)=>cs.setIfInBounds (off+p.2) p.1) cs).toList=cs.toList.take (off+k)++vs++cs.toList.drop (off+k+vs.length):=by
  induction vs with
  | nil=>intro cs off k h; simp
  | cons v vs ih =>
    intro cs off k h
    simp only [List.zipIdx_cons,List.foldl_cons]
    rw [ih _ off (k+1) (by simp at h ⊢; omega)]
    have:=list_seg_step cs.toList (off+k) v vs (by simp at h ⊢; omega)
    simpa [Array.toList_setIfInBounds,Nat.add_assoc] using this

def fillC (place:Nat→Option (Nat × Nat)) (cl:List C):List (Nat × List C)→Option (List C)
  | []=>some cl
  | (i,l)::rest =>
    match place i with
    | none=>none
    | some (off,size)=>if l.length=size∧off+l.length≤cl.length then fillC place (cl.take off++l++cl.drop (off+l.length)) rest else none

def Cells (I:In) (cl:List C) (cs:Array Value):Prop:=cs.size=cl.length∧∀ (i:Nat) (c:C),cl[i]?=some c→Cok I c (cs.getD i undef)

theorem fill_ok {I:In} {place:Nat→Option (Nat × Nat)}:∀ (ps:List (Nat × List C)) (vs:List (Nat × Value)) (cl:List C) (cs:Array Value) (out:List C),Cells I cl cs→fillC place cl ps=some out →
    vs.map (·.1)=ps.map (·.1)→(∀ (j:Nat) (p:Nat × List C) (v:Nat × Value),ps[j]?=some p→vs[j]?=some v→Cells I p.2 v.2.cells)→∃ cs',Instr.fill place cs vs=some cs'∧Cells I out cs'
  | [],vs,cl,cs,out,hc,hf,hv,_=>by
    have:vs=[]:=by simpa using hv
    subst this
    simp only [fillC,Option.some.injEq] at hf
    subst hf
    exact ⟨cs,rfl,hc⟩
  | (i,l)::ps,[],cl,cs,out,hc,hf,hv,_=>by simp at hv
  | (i,l)::ps,(i',v)::vs,cl,cs,out,hc,hf,hv,hp=>by
    simp only [List.map_cons,List.cons.injEq] at hv
    obtain ⟨rfl,hv⟩:=hv
    simp only [fillC] at hf
    have h0:=hp 0 _ _ rfl rfl
    simp only at h0
    cases hpl:place i' with
    | none=>simp [hpl] at hf
    | some q =>
      obtain ⟨off,size⟩:=q
      simp only [hpl] at hf
      split at hf
      · rename_i hcond
        obtain ⟨hls,hoff⟩:=hcond
        have hsz:v.cells.size=size:=by rw [h0.1]; exact hls
        simp only [Instr.fill,hpl]
        have hcond:(v.cells.size≠size||decide (off+v.cells.size > cs.size))=false:=by simp [hsz,hc.1]; omega
        have hcond':¬ ((decide (v.cells.size≠size)||decide (off+v.cells.size > cs.size))=true):=by simp [hsz,hc.1]; omega
        rw [if_neg hcond']
        refine fill_ok ps vs _ _ out ⟨?_,?_⟩ hf hv fun j p v' hj hv'=>hp (j+1) p v' (by simpa using hj) (by simpa using hv')
        · have e:=splice_fold v.cells.toList cs off 0 (by simp [hc.1]; omega)
          have e2:=congrArg List.length e
          rw [← Array.foldl_toList,Array.toList_zipIdx,← Array.length_toList,e2]
          simp [hc.1,h0.1]
        · intro k c hk
          have e:=splice_fold v.cells.toList cs off 0 (by simp [hc.1]; omega)
          rw [← Array.foldl_toList,Array.toList_zipIdx]
          generalize hA:List.foldl (fun (cs:Array Value) (x:Value × Nat)=>cs.setIfInBounds (off+x.2) x.1) cs (v.cells.toList.zipIdx 0)=A at e
          have e3:A.getD k undef=(A.toList[k]?).getD undef:=by simp
          rw [e3,e,Nat.add_zero,splice_get _ _ _ _ (by simp [hc.1]; omega)]
          rw [splice_get _ _ _ _ hoff] at hk
          have hle:v.cells.toList.length=l.length:=by simpa using h0.1
          rw [hle]
          by_cases g1:k < off
          · rw [if_pos g1] at hk ⊢
            simpa using hc.2 k c hk
          · rw [if_neg g1] at hk ⊢
            by_cases g2:k < off+l.length
            · rw [if_pos g2] at hk ⊢
              simpa using h0.2 _ c hk
            · rw [if_neg g2] at hk ⊢
              simpa using hc.2 k c hk
      · cases hf

def partsC (s:St):List (Nat × Operand)→Option (List (Nat × List C))
  | []=>some []
  | (i,x)::ps=>match (s.eval x).cells,partsC s ps with
    | some l,some r=>some ((i,l)::r)
    | _,_=>none

theorem partsC_ok {w:World} {M:Mz} {n:Nat} {I:In} {s s0:St} {a:Act} (h:RelI w M n I s a):∀ (ps:List (Nat × Operand)) (out:List (Nat × List C)),(∀ p∈preOfs s0 (ps.map (·.2)),s.slots p.1=p.2)→partsC s0 ps=some out →
    (ps.map fun p=>(p.1,a.eval p.2)).map (·.1)=out.map (·.1)∧∀ (j:Nat) (p:Nat × List C) (v:Nat × Value),out[j]?=some p→(ps.map fun p=>(p.1,a.eval p.2))[j]?=some v→Cells I p.2 v.2.cells
  | [],out,_,ho=>by
    simp only [partsC,Option.some.injEq] at ho
    subst ho
    simp
  | (i,x)::ps,out,hS,ho=>by
    simp only [partsC] at ho
    have hS1:∀ p∈preOf s0 x,s.slots p.1=p.2:=fun p hp=>hS p (by simp [preOfs]; exact .inl hp)
    have hS2:∀ p∈preOfs s0 (ps.map (·.2)),s.slots p.1=p.2:=fun p hp=>hS p (by simp only [preOfs,List.map_cons,List.flatMap_cons,List.mem_append]; exact .inr hp)
    cases hl:(s0.eval x).cells with
    | none=>simp [hl] at ho
    | some l =>
      cases hr:partsC s0 ps with
      | none=>simp [hl,hr] at ho
      | some r =>
        simp only [hl,hr,Option.some.injEq] at ho
        subst ho
        obtain ⟨h1,h2⟩:=partsC_ok h ps r hS2 hr
        refine ⟨by simpa using h1,fun j p v hj hv=>?_⟩
        cases j with
        | zero =>
          simp at hj hv
          subst hj; subst hv
          have:=h.eval x
          rw [eval_pre hS1] at this
          exact this.cells hl
        | succ j=>exact h2 j p v (by simpa using hj) (by simpa using hv)

theorem zcells_ok {P:Program} {t:TypeId} {i:TI} (ht:ZOk P t i) (I:In) {z:Value} (hz:z.cells.toList=i.zero):Cells I (zcells i) z.cells:=by
  refine ⟨by simp [zcells,← hz],fun j c hj=>?_⟩
  simp only [zcells,List.getElem?_map,Option.map_eq_some_iff] at hj
  obtain ⟨v,hj,rfl⟩:=hj
  have h1:v.oneCell'=true:=List.all_eq_true.1 ht.one v (List.mem_of_getElem? hj)
  rw [← hz] at hj
  have h2:z.cells.getD j undef=v:=by simp at hj; simp [hj]
  rw [h2]
  exact .d _ _ (.v v h1)

def Places (P:Program) (fs:List (Nat × TypeId)) (pl:List (Nat × Nat)):Prop:=fs.mapM (fun f=>(P.info? f.2).map fun i=>(f.1,i.size))=some pl

theorem OpS.build {P:Program} {o:Oper} (k:Nat) (s0:St) {t:TypeId} {i:TI} (ht:ZOk P t i) {fs:List (Nat × TypeId)} (hk:i.k=.st fs) {pl:List (Nat × Nat)} (hpl:Places P fs pl)
    {ps:List (Nat × Operand)} {pc:List (Nat × List C)} {out:List C} (h:o.op=.build t ps.toArray) (hp:partsC s0 ps=some pc) (hf:fillC (pl[·]?) (zcells i) pc=some out) :
    OpS P o k (preOfs s0 (ps.map (·.2))) [] (.agg out) []:=by
  refine .quiet fun w M n I s a hS _ hr=>?_
  obtain ⟨x,z,hi,_,_,hx3,hx4⟩:=ht.ok.info'
  have hu:=ht.ok.und
  rw [hk] at hu
  obtain ⟨fa,hu,hfa⟩:=hu
  obtain ⟨h1,h2⟩:=partsC_ok hr ps pc hS hp
  obtain ⟨cs,h3,h4⟩:=fill_ok pc (ps.map fun p=>(p.1,a.eval p.2)) (zcells i) z.cells out (zcells_ok ht I hx4) hf h1 h2
  have hmap:fa.toList.mapM (fun f=>(P.info? f.type).map fun i=>(f.offset,i.size))=some pl:=by
    rw [← hpl,← hfa,List.mapM_map]; rfl
  have hb:P.built t (ps.map fun p=>(p.1,a.eval p.2))=some cs:=by
    simp only [Program.built,hi,hu,hx3,hmap]
    rw [show ((fun x=>pl.toArray[x]?):Nat→Option (Nat × Nat))=(fun x=>pl[x]?) from by funext j; simp]
    exact h3
  refine ⟨.agg cs,.agg _ _ h4.1 h4.2,?_⟩
  have hr2:=run_build (P:=P) I.W t (ps.map fun p=>(p.1,a.eval p.2)).toArray cs (by simpa using hb)
  simp only [List.map_toArray,execOp,h] at hr2 ⊢
  simp [hr2]
end Go.Ev

namespace Go.Ev
variable [Lay]

inductive FitsL (s:St):List C→List D→List (Id × (Nat × Nat × O))→Prop where
  | nil:FitsL s [] [] []
  | cons (c:C) (x:D) (k1:List (Id × (Nat × Nat × O))) (cs:List C) (xs:List D) (k2:List (Id × (Nat × Nat × O))) (h:Fits s c x k1) (t:FitsL s cs xs k2):FitsL s (c::cs) (x::xs) (k1++k2)

theorem FitsL.fam {s:St} {cs:List C} {xs:List D} {ks:List (Id × (Nat × Nat × O))} (h:FitsL s cs xs ks) :
    cs.length=xs.length∧∃ K:Nat→List (Id × (Nat × Nat × O)),(∀ (k:Nat) (c:C) (x:D),cs[k]?=some c→xs[k]?=some x→Fits s c x (K k))∧(∀ k p,p∈K k→p∈ks) ∧
      ((idsOf ks).Nodup→∀ k k' p p',p∈K k→p'∈K k'→p.1=p'.1→k=k'):=by
  induction h with
  | nil=>exact ⟨rfl,fun _=>[],by simp,by simp,by simp⟩
  | cons c x k1 cs xs k2 h t ih =>
    obtain ⟨hl,K,h1,h2,h3⟩:=ih
    refine ⟨by simp [hl],fun k=>match k with | 0=>k1 | k+1=>K k,?_,?_,?_⟩
    · intro k c' x' hc hx
      cases k with
      | zero=>simp at hc hx; subst hc; subst hx; exact h
      | succ k=>exact h1 k c' x' (by simpa using hc) (by simpa using hx)
    · intro k p hp
      cases k with
      | zero=>exact List.mem_append.2 (.inl hp)
      | succ k=>exact List.mem_append.2 (.inr (h2 k p hp))
    · intro hn k k' p p' hp hp' he
      simp only [idsOf,List.map_append] at hn
      obtain ⟨_,hn2,hn3⟩:=List.nodup_append.1 hn
      cases k with
      | zero =>
        cases k' with
        | zero=>rfl
        | succ k'=>exact absurd he (hn3 _ (List.mem_map.2 ⟨p,hp,rfl⟩) _ (List.mem_map.2 ⟨p',h2 k' p' hp',rfl⟩))
      | succ k =>
        cases k' with
        | zero=>exact absurd he.symm (hn3 _ (List.mem_map.2 ⟨p',hp',rfl⟩) _ (List.mem_map.2 ⟨p,h2 k p hp,rfl⟩))
        | succ k'=>rw [h3 hn2 k k' p p' hp hp' he]

theorem flatten_get {sz:Nat}:∀ (l:List (List D)),(∀ el∈l,el.length=sz)→∀ (j:Nat) (el:List D) (i:Nat) (x:D),l[j]?=some el→el[i]?=some x→l.flatten[j * sz+i]?=some x
  | [],_,j,el,i,x,hj,_=>by simp at hj
  | e0::l,h,j,el,i,x,hj,hi=>by
    have h0:e0.length=sz:=h e0 (by simp)
    cases j with
    | zero =>
      simp at hj
      subst hj
      rw [List.flatten_cons,Nat.zero_mul,Nat.zero_add,List.getElem?_append_left (List.getElem?_eq_some_iff.1 hi).1]
      exact hi
    | succ j =>
      rw [List.flatten_cons,List.getElem?_append_right (by rw [h0,Nat.add_mul]; omega),h0]
      have e1:(j+1) * sz+i - sz=j * sz+i:=by rw [Nat.add_mul]; omega
      rw [e1]
      exact flatten_get l (fun el hel=>h el (by simp [hel])) j el i x (by simpa using hj) hi
theorem flatten_len {sz:Nat}:∀ (l:List (List D)),(∀ el∈l,el.length=sz)→l.flatten.length=l.length * sz
  | [],_=>by simp
  | e0::l,h=>by
    rw [List.flatten_cons,List.length_append,flatten_len l (fun el hel=>h el (by simp [hel])),h e0 (by simp),List.length_cons,Nat.add_mul]; omega

theorem idx_inj {sz j i j' i':Nat} (hi:i < sz) (hi':i' < sz) (h:j * sz+i=j' * sz+i'):j=j'∧i=i':=by
  have hs:0 < sz:=by omega
  have h1:(j * sz+i) / sz=j:=by rw [Nat.mul_comm,Nat.mul_add_div hs,Nat.div_eq_of_lt hi,Nat.add_zero]
  have h2:(j' * sz+i') / sz=j':=by rw [Nat.mul_comm,Nat.mul_add_div hs,Nat.div_eq_of_lt hi',Nat.add_zero]
  have h3:j=j':=by rw [← h1,← h2,h]
  subst h3
  exact ⟨rfl,by omega⟩

section
variable {w:World} {M:Mz} {n:Nat} {I:In} {s:St} {a:Act}

theorem RelI.row (h:RelI w M n I s a) {s0:St} (r:Id) (st:Nat) (hst:¬ I.U st) (e sz:Nat) (l:List (List D)) (hmax:l.length≤maxLen) (hlen:∀ el∈l,el.length=sz) {cl:List C} {cs:Array Value} (hc:Cells I cl cs)
    {ks:List (Id × (Nat × Nat × O))} (hf:FitsL s0 cl l.flatten ks) (hpre:∀ p∈ks,s.H p.1=some p.2) (hnd:(idsOf ks).Nodup) :
    ∃ J:In,J.W=I.W.alloc (.cells cs e)∧J.U=(fun q=>I.U q∨q=st)∧RelI w M n J (s.upds (updOf r (idsOf ks) (st,st,.row e sz l))) a∧SVok J (.one (.ref r st)) (.slice (some ⟨I.W.heap.size,0,none⟩) l.length l.length):=by
  obtain ⟨hcl,K,h1,h2,h3⟩:=hf.fam
  have hsz:cs.size=l.length * sz:=by rw [hc.1,hcl,flatten_len l hlen]
  have hI:∀ p∈ks,I.H p.1=some p.2:=fun p hp=>by rw [h.hH]; exact hpre p hp
  have hsets:∀ b,I.sets ks b→∃ q x,(q=r∨q∈idsOf ks)∧I.H q=some x∧I.S q b:=by
    rintro b ⟨q,x,hq,hb⟩
    exact ⟨q,x,.inr (List.mem_map.2 ⟨_,hq,rfl⟩),hI _ hq,hb⟩
  have hO:Ow (I.W.alloc (.cells cs e)) I.Z (fun b=>I.sets ks b∨b=I.W.heap.size) (.sl true e sz l) (.slice (some ⟨I.W.heap.size,0,none⟩) l.length l.length):=by
    have hget:∀ (j:Nat) (el:List D) (i:Nat) (x:D),l[j]?=some el→el[i]?=some x→∃ c,cl[j * sz+i]?=some c∧Fits s0 c x (K (j * sz+i))∧Cok I c (cs.getD (j * sz+i) undef)∧j * sz+i < cs.size:=by
      intro j el i x hj hi
      have hx:=flatten_get l hlen j el i x hj hi
      have hlt:=(List.getElem?_eq_some_iff.1 hx).1
      have hc':cl[j * sz+i]?=some (cl[j * sz+i]'(by omega)):=List.getElem?_eq_getElem _
      exact ⟨_,hc',h1 _ _ _ hc' hx,hc.2 _ _ hc',by rw [hc.1]; omega⟩
    refine .sl _ e sz l _ cs.toList (fun j i b=>i < sz∧I.sets (K (j * sz+i)) b) (fun j i=>cs.getD (j * sz+i) undef) (World.ownsRow_lit I.W cs l.length (Nat.zero_le _) hmax hsz) hmax ?_ ?_ ?_ (fun j el hj=>hlen el (List.mem_of_getElem? hj)) ?_ ?_
    · intro k hk
      simp only [Value.ownBlock,Option.some.injEq] at hk
      exact .inr hk.symm
    · rintro j i b ⟨hi,q,x,hq,hb⟩
      refine ⟨.inl ⟨q,x,h2 _ _ hq,hb⟩,fun e'=>?_⟩
      simp only [Value.ownBlock,Option.some.injEq] at e'
      have:=(h.sets q x (hI _ (h2 _ _ hq)) b hb).1
      omega
    · rintro j i j' i' b ⟨hi,q,x,hq,hb⟩ ⟨hi',q',x',hq',hb'⟩
      by_cases he:q=q'
      · exact idx_inj hi hi' (h3 hnd _ _ _ _ hq hq' he)
      · exact absurd hb' (h.disj q q' x x' he (hI _ (h2 _ _ hq)) (hI _ (h2 _ _ hq')) b hb)
    · intro j el i x hj hi
      obtain ⟨c,_,_,_,hlt⟩:=hget j el i x hj hi
      simp [hlt]
    · intro j el i x hj hi
      obtain ⟨c,_,hfit,hok,_⟩:=hget j el i x hj hi
      have hi':i < sz:=by rw [← hlen el (List.mem_of_getElem? hj)]; exact (List.getElem?_eq_some_iff.1 hi).1
      have ho:=hfit.ok h (fun p hp=>hpre p (h2 _ _ hp)) hok
      refine (ho.move (fun b hb=>⟨hb,(ext_alloc _ _).block b (h.zone b hb) id⟩) ?_).mono fun b hb=>⟨hi',hb⟩
      rintro b ⟨q,x',hq,hb⟩
      exact (ext_alloc _ _).block b (h.sets q x' (hI _ (h2 _ _ hq)) b hb).1 id
  obtain ⟨hJ,_⟩:=h.upd r (idsOf ks) st st hst (.row e sz l) (.slice (some ⟨I.W.heap.size,0,none⟩) l.length l.length) (fun b=>I.sets ks b∨b=I.W.heap.size) (I.W.alloc (.cells cs e)) (.inl rfl)
    ⟨rfl,rfl,rfl,by simp,fun b hb _=>(ext_alloc _ _).block b hb id⟩
    (fun b hb=>by
      rcases hb with hb | hb
      · obtain ⟨q,x,hq,hx,hs⟩:=hsets b hb
        exact ⟨by have:=(h.sets q x hx b hs).1; simp; omega,.inl ⟨q,x,hq,hx,hs⟩⟩
      · exact ⟨by simp; omega,.inr (by omega)⟩)
    (fun _=>by
      show Ow _ I.Z (up I.S r _ r) _ (up I.hd r _ r)
      rw [up_same,up_same]; exact hO)
  exact ⟨_,rfl,rfl,hJ,.one _ _ (.ref r st _ (.inr rfl) rfl fun m o _=>(up_same _ _ _).symm)⟩
end

def zerosC (i:TI) (n:Nat):List C:=(List.replicate n (zcells i)).flatten

theorem zeros_ok {P:Program} {e:TypeId} {ie:TI} (he:ZOk P e ie) (hz:ie.zero.length=ie.size) (I:In) {z:Value} (hzc:z.cells.toList=ie.zero) (n:Nat):Cells I (zerosC ie n) (madeCells z.cells (n * ie.size)):=by
  have hl:∀ el∈List.replicate n (zcells ie),el.length=ie.size:=by
    intro el hel
    rw [(List.mem_replicate.1 hel).2]; simp [zcells,hz]
  have hzs:z.cells.size=ie.size:=by rw [← Array.length_toList,hzc,hz]
  have hlen:(zerosC ie n).length=n * ie.size:=by
    simp only [zerosC,List.length_flatten,List.map_replicate,List.sum_replicate_nat]
    simp [zcells,hz]
  refine ⟨by rw [size_madeCells,hlen],fun k c hk=>?_⟩
  have hlt:k < n * ie.size:=by rw [← hlen]; exact (List.getElem?_eq_some_iff.1 hk).1
  obtain ⟨g1,g2,g3⟩:=div_mod_lt hlt
  obtain ⟨_,hzk⟩:=zcells_ok he I hzc
  have hget:(zcells ie)[k % ie.size]?=some c:=by
    have key:∀ (m k:Nat),k < m * ie.size→((List.replicate m (zcells ie)).flatten)[k]?=(zcells ie)[k % ie.size]?:=by
      intro m
      induction m with
      | zero=>intro k hk; simp at hk
      | succ m ih =>
        intro k hk
        rw [List.replicate_succ,List.flatten_cons]
        have hzl:(zcells ie).length=ie.size:=by simp [zcells,hz]
        by_cases h0:k < ie.size
        · rw [List.getElem?_append_left (by omega),Nat.mod_eq_of_lt h0]
        · rw [List.getElem?_append_right (by omega),hzl,ih (k - ie.size) (by rw [Nat.succ_mul] at hk; omega),← Nat.mod_eq_sub_mod (by omega)]
    rw [← key n k hlt]; exact hk
  have h2:=hzk _ _ hget
  have e1:(madeCells z.cells (n * ie.size)).getD k undef=z.cells.getD (k % ie.size) undef:=by
    have hm:k % ie.size < z.cells.size:=by omega
    rw [Array.getD_eq_getD_getElem?,Array.getD_eq_getD_getElem?,Array.getElem?_eq_getElem hm]
    simp [madeCells,hlt,hzs]
    rw [getElem!_def,Array.getElem?_eq_getElem hm]
  rw [e1]; exact h2

theorem run_buildSlice {P:Program} {t e:TypeId} {size:Nat} {z:Value} (hu:P.underlying t=some (.slice e)) (hs:∀ w,(sizeOf e).run P w=.ok size w) (hz:∀ w,(zeroValue e).run P w=.ok z w) {len:Nat} (hle:¬ 16777216 < len * size)
    {parts:Array (Nat × Value)} {cs:Array Value} (hf:Instr.fill (fun i=>some (i * size,size)) (madeCells z.cells (len * size)) parts.toList=some cs) (w:World) :
    (Instr.buildSlice t len parts).run P w=.ok (.slice (some ⟨w.heap.size,0,none⟩) len len) (w.alloc (.cells cs e)):=by
  have hle':¬ 2 ^ 24 < len * size:=by simpa using hle
  simp only [Instr.buildSlice,Sem.run_bind,run_underlying hu,Result.andThen_ok,hs,gt_iff_lt,hle',if_false]
  by_cases h0:len * size=0
  · have hf':Instr.fill (fun i=>some (i * size,size)) #[] parts.toList=some cs:=by
      rw [h0,Array.eq_empty_of_size_eq_zero (size_madeCells z.cells 0)] at hf; exact hf
    simp only [h0,if_true]
    have hr:Array.range 0=#[]:=rfl
    simp only [hr,Array.map_empty,hf']
    simp [newRow]
  · simp only [h0,if_false,Sem.run_bind,hz,Result.andThen_ok,Sem.run_pure]
    have hm:(Array.range (len * size)).map (fun x=>z.cells[x % z.cells.size]!)=madeCells z.cells (len * size):=rfl
    simp only [hm,hf]
    simp [newRow]

theorem OpS.buildSlice {P:Program} {o:Oper} (st:Nat) (s0:St) {t e:TypeId} {it ie:TI} (ht:TyOk P t it) (hk:it.k=.sl e) (he:ZOk P e ie) (hz:ie.zero.length=ie.size) (h0:0 < ie.size) {len d:Nat}
    {ps:List (Nat × Operand)} {pc:List (Nat × List C)} {out:List C} (h:o.op=.buildSlice t len ps.toArray) (hd:o.dst=some d) (hsmall:len * ie.size≤16777216) (hp:partsC s0 ps=some pc)
    (hf:fillC (fun i=>some (i * ie.size,ie.size)) (zerosC ie len) pc=some out) {l:List (List D)} {ks:List (Id × (Nat × Nat × O))} (hl:l.length=len) (hlen:∀ el∈l,el.length=ie.size) (hfit:FitsL s0 out l.flatten ks)
    (hnd:(idsOf ks).Nodup) :
    OpS P o st (preOfs s0 (ps.map (·.2))) ks (.one (.ref [d] st)) (updOf [d] (idsOf ks) (st,st,.row e ie.size l)):=by
  intro w M n U s a W next Q hS hHs hst hdn ⟨I,hW,hU,hr⟩ hn
  subst hW hU
  subst hl
  obtain ⟨x,z,hi,hx1,_,hx3,hx4⟩:=he.ok.info'
  have hu:=ht.slice hk
  obtain ⟨h1,h2⟩:=partsC_ok hr ps pc hS hp
  obtain ⟨cs,h3,h4⟩:=fill_ok pc (ps.map fun p=>(p.1,a.eval p.2)) (zerosC ie l.length) _ out (zeros_ok he hz I hx4 l.length) hf h1 h2
  have hmax:l.length≤maxLen:=by
    have h1:l.length≤l.length * ie.size:=Nat.le_mul_of_pos_right _ h0
    simp only [maxLen]; omega
  obtain ⟨J,hJ,hJU,hrJ,hv⟩:=hr.row [d] st hst e ie.size l hmax hlen h4 hfit (fun p hp=>hHs p hp) hnd
  have hrun:(execOp a.eval o).run P I.W=.ok (.value (.slice (some ⟨I.W.heap.size,0,none⟩) l.length l.length)) J.W:=by
    rw [hJ]
    have hzr:∀ w,(zeroValue e).run P w=.ok z w:=fun w=>by simp [zeroValue,typeInfo,hi,hx3]
    have h5:=run_buildSlice (P:=P) (t:=t) hu he.ok.sizeOf hzr (len:=l.length) (by omega) (parts:=(ps.map fun p=>(p.1,a.eval p.2)).toArray) (cs:=cs) (by simpa using h3) I.W
    simp only [execOp,h]
    simp only [List.map_toArray,Sem.run_bind,h5,Result.andThen_ok,Sem.run_pure]
  rw [Oper.wp,hrun]
  refine hn _ _ ⟨J,rfl,hJU,?_⟩
  rw [hd]
  exact hrJ.put (hdn d hd) hv
end Go.Ev

namespace Go.Ev
variable [Lay]

theorem FitsL.vs (s:St):∀ (vs:List Value),FitsL s (vs.map fun v=>.d (.v v)) (vs.map .v) []
  | []=>.nil
  | v::vs=>by simpa using FitsL.cons _ _ [] _ _ [] (.d _) (FitsL.vs s vs)

theorem OpS.makeSlice {P:Program} {o:Oper} (st:Nat) (s0:St) {t e:TypeId} {it ie:TI} (ht:TyOk P t it) (hk:it.k=.sl e) (he:ZOk P e ie) (hz:ie.zero.length=ie.size) {x y:Operand} {d n0:Nat} {k1 k2:IntKind}
    (h:o.op=.makeSlice t x y) (hd:o.dst=some d) (hx:s0.eval x=.one (.d (.v (.int k1 n0)))) (hy:s0.eval y=.one (.d (.v (.int k2 n0)))) (hb:ie.bytes * n0≤281474976710656) (hn0:n0≤9223372036854775807) :
    OpS P o st (preOf s0 x++preOf s0 y) [] (.one (.ref [d] st)) (updOf [d] [] (st,st,.row e ie.size (List.replicate n0 (ie.zero.map .v)))):=by
  intro w M n U s a W next Q hS hHs hst hdn ⟨I,hW,hU,hr⟩ hn
  subst hW hU
  obtain ⟨e1,e2⟩:=preOfs_two hS
  have hex:=hr.eval x
  have hey:=hr.eval y
  rw [e1,hx] at hex
  rw [e2,hy] at hey
  obtain ⟨x',z,hi,hx1,hx2,hx3,hx4⟩:=he.ok.info'
  have hu:=ht.slice hk
  cases hex with
  | one _ _ hex =>
  cases hex with
  | d _ _ hex =>
  generalize hvx:a.eval x=vx at hex
  cases hex with
  | v _ _ =>
  cases hey with
  | one _ _ hey =>
  cases hey with
  | d _ _ hey =>
  generalize hvy:a.eval y=vy at hey
  cases hey with
  | v _ _ =>
    have hmx:n0≤maxLen:=by simp only [maxLen]; omega
    have hb':(x'.bytes:Int) * (n0:Int)≤281474976710656:=by
      have h1:((ie.bytes * n0:Nat):Int)≤281474976710656:=by omega
      rwa [hx2,← Int.natCast_mul]
    have hrun0:=run_make (P:=P) I.W t e x' z hu hi hx3 k1 k2 n0 n0 (by omega) (Int.le_refl _) hb' (by omega)
    rw [Int.toNat_natCast,hx1] at hrun0
    have hfl:FitsL s0 (zerosC ie n0) (List.replicate n0 (ie.zero.map D.v)).flatten []:=by
      have e1:zerosC ie n0=((List.replicate n0 ie.zero).flatten).map fun v=>.d (.v v):=by simp [zerosC,zcells,List.map_flatten]
      have e2:(List.replicate n0 (ie.zero.map D.v)).flatten=((List.replicate n0 ie.zero).flatten).map .v:=by simp [List.map_flatten]
      rw [e1,e2]; exact .vs _ _
    obtain ⟨J,hJ,hJU,hrJ,hv⟩:=hr.row (s0:=s0) [d] st hst e ie.size (List.replicate n0 (ie.zero.map .v)) (by simpa using hmx) (by intro el hel; rw [(List.mem_replicate.1 hel).2]; simp [hz]) (zeros_ok he hz I hx4 n0) hfl (by simp) (by simp [idsOf])
    have hrun:(execOp a.eval o).run P I.W=.ok (.value (.slice (some ⟨I.W.heap.size,0,none⟩) n0 n0)) J.W:=by
      simp only [execOp,h,hvx,hvy,Sem.run_bind,hrun0,Result.andThen_ok,Sem.run_pure,hJ]
    rw [Oper.wp,hrun]
    refine hn _ _ ⟨J,rfl,hJU,?_⟩
    rw [hd]
    simp only [List.length_replicate] at hv
    exact hrJ.put (hdn d hd) hv

def spl {α:Type} (el:List α) (off:Nat) (xs:List α):List α:=el.take off++xs++el.drop (off+xs.length)
theorem spl_len {α:Type} (el xs:List α) (off:Nat) (h:off+xs.length≤el.length):(spl el off xs).length=el.length:=by simp [spl]; omega

section
variable {w:World} {M:Mz} {n:Nat} {I:In} {s:St} {a:Act}

theorem RelI.elem (h:RelI w M n I s a) {s0:St} {r:Id} {k m0 e sz:Nat} {l:List (List D)} (hH:I.H r=some (k,m0,.row e sz l)) (m:Nat) (hm:¬ I.U m) {i:Nat} {el:List D} (hi:l[i]?=some el) {off:Nat} {cl:List C} {us:Array Value}
    (hc:Cells I cl us) {xs:List D} {ks:List (Id × (Nat × Nat × O))} (hf:FitsL s0 cl xs ks) (hpre:∀ p∈ks,s.H p.1=some p.2) (hnd:(idsOf ks).Nodup) (hrk:r ∉ idsOf ks) (hoff:off+xs.length≤el.length) :
    ∃ (g cap:Nat) (cur:Array Value) (J:In),I.hd r=.slice (some ⟨g,0,none⟩) l.length cap∧I.W.heap[g]?=some (.cells cur e (0,0))∧i * sz+off+us.size≤cur.size ∧
      J.W=I.W.setRow g (cur.toList.take (i * sz+off)++us.toList++cur.toList.drop (i * sz+off+us.size)).toArray∧J.U=(fun q=>I.U q∨q=m) ∧
      RelI w M n J (s.upds (updOf r (idsOf ks) (k,m,.row e sz (l.set i (spl el off xs))))) a:=by
  obtain ⟨hcl,K,h1,h2,h3⟩:=hf.fam
  have hI:∀ p∈ks,I.H p.1=some p.2:=fun p hp=>by rw [h.hH]; exact hpre p hp
  have hO:Ow I.W I.Z (I.S r) (.sl true e sz l) (I.hd r):=(h.objs r k m0 _ hH).2.2
  generalize hu:I.hd r=u at hO
  cases hO with
  | rd _ _ _ h=>cases h
  | sl _ _ _ _ _ cells T val hrow hmax hS hT hdis hlen hcell how =>
    have hil:i < l.length:=(List.getElem?_eq_some_iff.1 hi).1
    have hel:el.length=sz:=hlen i el hi
    rcases hrow.2 with ⟨_,h0⟩ | ⟨g,cap,cur,rfl,_,hg,hnc,hcm,hcs,htk⟩
    · omega
    have hus:us.size=xs.length:=by rw [hc.1,hcl]
    have hroom:i * sz+off+us.size≤l.length * sz:=by
      have:=Nat.mul_le_mul_right sz (show i+1≤l.length from hil)
      rw [Nat.succ_mul] at this; omega
    have hroom2:i * sz+off+us.size≤cur.size:=by
      rw [hcs]; exact Nat.le_trans hroom (Nat.mul_le_mul_right _ hnc)
    have hSg:I.S r g:=hS g (by simp [Value.ownBlock])
    generalize hnew:(cur.toList.take (i * sz+off)++us.toList++cur.toList.drop (i * sz+off+us.size)).toArray=new
    have hnewget:∀ q,new.toList[q]?=if q < i * sz+off then cur.toList[q]? else if q < i * sz+off+us.size then us.toList[q - (i * sz+off)]? else cur.toList[q]?:=by
      intro q
      rw [← hnew]
      have:=splice_get cur.toList us.toList (i * sz+off) q (by simpa using hroom2)
      simpa using this
    have hnews:new.size=cur.size:=by rw [← hnew]; simp; omega
    have hset:∀ (j:Nat) (el':List D),(l.set i (spl el off xs))[j]?=some el'→(j=i∧el'=spl el off xs)∨(j≠i∧l[j]?=some el'):=by
      intro j el' hj
      rw [List.getElem?_set] at hj
      by_cases e1:i=j
      · subst e1
        rw [if_pos rfl,if_pos hil] at hj
        exact .inl ⟨rfl,(Option.some.inj hj).symm⟩
      · rw [if_neg e1] at hj
        exact .inr ⟨fun e2=>e1 e2.symm,hj⟩
    have hspl:∀ (q:Nat) (x:D),(spl el off xs)[q]?=some x→(q < off∧el[q]?=some x)∨(off≤q∧q < off+xs.length∧xs[q - off]?=some x)∨(off+xs.length≤q∧el[q]?=some x):=by
      intro q x hq
      rw [spl,splice_get _ _ _ _ hoff] at hq
      split at hq
      · exact .inl ⟨‹_›,hq⟩
      · split at hq
        · exact .inr (.inl ⟨by omega,‹_›,hq⟩)
        · exact .inr (.inr ⟨by omega,hq⟩)
    have hcur:∀ (j:Nat) (el':List D) (q:Nat) (x:D),l[j]?=some el'→el'[q]?=some x→cur.toList[j * sz+q]?=some (val j q)∧q < sz:=by
      intro j el' q x hj hq
      have h4:=hcell j el' q x hj hq
      rw [← htk,List.getElem?_take] at h4
      split at h4
      · exact ⟨h4,by rw [← hlen j el' hj]; exact (List.getElem?_eq_some_iff.1 hq).1⟩
      · cases h4
    have hblk:∀ b,b≠g→(I.W.setRow g new).heap[b]?=I.W.heap[b]?:=fun b hb=>setRow_other I.W g b new (fun e=>hb (by omega))
    have hZ:∀ b,I.Z b→I.Z b∧(I.W.setRow g new).heap[b]?=I.W.heap[b]?:=fun b hb=>⟨hb,hblk b fun e=>(h.sets r _ hH g hSg).2.1 (e ▸ hb)⟩
    have hksg:∀ b,I.sets ks b→b≠g∧¬ I.S r b:=by
      rintro b ⟨q,x,hq,hb⟩
      have hne:r≠q:=fun e=>hrk (e ▸ List.mem_map.2 ⟨_,hq,rfl⟩)
      exact ⟨fun e=>h.disj r q _ x hne hH (hI _ hq) b (e ▸ hSg) hb,fun hs=>h.disj r q _ x hne hH (hI _ hq) b hs hb⟩
    have hOn:Ow (I.W.setRow g new) I.Z (fun b=>I.S r b∨I.sets ks b) (.sl true e sz (l.set i (spl el off xs))) (.slice (some ⟨g,0,none⟩) l.length cap):=by
      refine .sl _ e sz _ _ (new.toList.take (l.length * sz)) (fun j q=>if j=i∧off≤q∧q < off+xs.length then I.sets (K (q - off)) else T j q)
        (fun j q=>if j=i∧off≤q∧q < off+xs.length then us.getD (q - off) undef else val j q) ?_ (by simpa using hmax) ?_ ?_ ?_ ?_ ?_ ?_
      · rw [List.length_set]
        exact ⟨by rw [List.length_take,@Array.length_toList _ new,hnews,hcs]; exact Nat.min_eq_left (Nat.mul_le_mul_right _ hnc),.inr ⟨g,cap,new,rfl,Nat.zero_le _,setRow_heap _ _ _ _ _ _ hg,hnc,hcm,by rw [hnews,hcs],rfl⟩⟩
      · intro b hb
        simp only [Value.ownBlock,Option.some.injEq] at hb
        exact .inl (hb ▸ hSg)
      · intro j q b hb
        simp only [Value.ownBlock,ne_eq,Option.some.injEq]
        split at hb
        · obtain ⟨q',x,hq,hb'⟩:=hb
          have h4:I.sets ks b:=⟨q',x,h2 _ _ hq,hb'⟩
          exact ⟨.inr h4,fun e=>(hksg b h4).1 e.symm⟩
        · have:=hT j q b hb
          simp only [Value.ownBlock,ne_eq,Option.some.injEq] at this
          exact ⟨.inl this.1,this.2⟩
      · intro j q j' q' b hb hb'
        split at hb<;>split at hb'
        · obtain ⟨p,x,hp,hb⟩:=hb
          obtain ⟨p',x',hp',hb'⟩:=hb'
          by_cases he:p=p'
          · have:=h3 hnd _ _ _ _ hp hp' he
            rename_i c1 c2
            exact ⟨c1.1.trans c2.1.symm,by omega⟩
          · exact absurd hb' (h.disj p p' x x' he (hI _ (h2 _ _ hp)) (hI _ (h2 _ _ hp')) b hb)
        · obtain ⟨p,x,hp,hb⟩:=hb
          exact absurd (hT j' q' b hb').1 (hksg b ⟨p,x,h2 _ _ hp,hb⟩).2
        · obtain ⟨p,x,hp,hb'⟩:=hb'
          exact absurd (hT j q b hb).1 (hksg b ⟨p,x,h2 _ _ hp,hb'⟩).2
        · exact hdis j q j' q' b hb hb'
      · intro j el' hj
        rcases hset j el' hj with ⟨_,rfl⟩ | ⟨_,hj⟩
        · rw [spl_len _ _ _ hoff]; exact hel
        · exact hlen j el' hj
      · intro j el' q x hj hq
        have hqs:q < sz∧j < l.length:=by
          rcases hset j el' hj with ⟨rfl,rfl⟩ | ⟨_,hj⟩
          · exact ⟨by rw [← hel,← spl_len el xs off hoff]; exact (List.getElem?_eq_some_iff.1 hq).1,hil⟩
          · exact ⟨by rw [← hlen j el' hj]; exact (List.getElem?_eq_some_iff.1 hq).1,(List.getElem?_eq_some_iff.1 hj).1⟩
        have hlt:j * sz+q < l.length * sz:=by
          have:=Nat.mul_le_mul_right sz (show j+1≤l.length from hqs.2)
          rw [Nat.succ_mul] at this; omega
        rw [List.getElem?_take,if_pos hlt,hnewget]
        rcases hset j el' hj with ⟨rfl,rfl⟩ | ⟨hne,hj⟩
        · rcases hspl q x hq with ⟨g1,g2⟩ | ⟨g1,g2,g3⟩ | ⟨g1,g2⟩
          · rw [if_pos (by omega),if_neg (by omega)]
            exact (hcur j el q x hi g2).1
          · rw [if_neg (by omega),if_pos (by omega),if_pos ⟨rfl,g1,g2⟩]
            have e1:j * sz+q - (j * sz+off)=q - off:=by omega
            rw [e1]
            have:q - off < us.size:=by omega
            simp [this]
          · rw [if_neg (by omega),if_neg (by omega),if_neg (by omega)]
            exact (hcur j el q x hi g2).1
        · have hout:j * sz+q < i * sz+off∨i * sz+off+us.size≤j * sz+q:=by
            rcases Nat.lt_or_gt_of_ne hne with h5 | h5
            · have:=Nat.mul_le_mul_right sz (show j+1≤i from h5)
              rw [Nat.succ_mul] at this; omega
            · have:=Nat.mul_le_mul_right sz (show i+1≤j from h5)
              rw [Nat.succ_mul] at this; omega
          have hv:(if j=i∧off≤q∧q < off+xs.length then us.getD (q - off) undef else val j q)=val j q:=if_neg fun e=>hne e.1
          rw [hv]
          rcases hout with h5 | h5
          · rw [if_pos h5]; exact (hcur j el' q x hj hq).1
          · rw [if_neg (by omega),if_neg (by omega)]; exact (hcur j el' q x hj hq).1
      · intro j el' q x hj hq
        have hold:∀ (j:Nat) (el':List D),l[j]?=some el'→el'[q]?=some x→Ow (I.W.setRow g new) I.Z (T j q) x (val j q):=by
          intro j el' hj hq
          refine (how j el' q x hj hq).move hZ fun b hb=>hblk b fun e=>?_
          have:=(hT j q b hb).2
          simp [Value.ownBlock] at this
          exact this e.symm
        rcases hset j el' hj with ⟨rfl,rfl⟩ | ⟨hne,hj⟩
        · rcases hspl q x hq with ⟨g1,g2⟩ | ⟨g1,g2,g3⟩ | ⟨g1,g2⟩
          · rw [if_neg (by omega),if_neg (by omega)]; exact hold j el hi g2
          · rw [if_pos ⟨rfl,g1,g2⟩,if_pos ⟨rfl,g1,g2⟩]
            have hcl':cl[q - off]?=some (cl[q - off]'(by omega)):=List.getElem?_eq_getElem _
            have ho:=(h1 _ _ _ hcl' g3).ok h (fun p hp=>hpre p (h2 _ _ hp)) (hc.2 _ _ hcl')
            refine ho.move hZ ?_
            rintro b ⟨q',x',hq',hb⟩
            exact hblk b (hksg b ⟨q',x',h2 _ _ hq',hb⟩).1
          · rw [if_neg (by omega),if_neg (by omega)]; exact hold j el hi g2
        · rw [if_neg (fun e=>hne e.1),if_neg (fun e=>hne e.1)]; exact hold j el' hj hq
    obtain ⟨hJ,_⟩:=h.upd r (idsOf ks) k m hm (.row e sz (l.set i (spl el off xs))) (I.hd r) (fun b=>I.S r b∨I.sets ks b) (I.W.setRow g new)
      (.inr ⟨m0,_,hH,rfl,fun e' sz' l' he=>by cases he; exact ⟨l,rfl⟩⟩) (ext_setRow _ _ _ _ ⟨r,_,.inl rfl,hH,hSg⟩)
      (fun b hb=>by
        have hlt:∀ q x,I.H q=some x→I.S q b→b < (I.W.setRow g new).heap.size:=fun q x hx hs=>by have:=(h.sets q x hx b hs).1; simpa [World.setRow] using this
        rcases hb with hb | ⟨q,x,hq,hb⟩
        · exact ⟨hlt r _ hH hb,.inl ⟨r,_,.inl rfl,hH,hb⟩⟩
        · exact ⟨hlt q x (hI _ hq) hb,.inl ⟨q,x,.inr (List.mem_map.2 ⟨_,hq,rfl⟩),hI _ hq,hb⟩⟩)
      (fun _=>by
        show Ow _ I.Z (up I.S r _ r) _ (up I.hd r _ r)
        rw [up_same,up_same,hu]; exact hOn)
    exact ⟨g,cap,cur,_,rfl,hg,hroom2,by rw [hnew]; rfl,rfl,hJ⟩
end

theorem OpS.storeE {P:Program} {o:Oper} (st:Nat) (s0:St) {t:TypeId} {i:TI} (ht:TyOk P t i) {x y:Operand} {r:Id} {k m0 j off e sz:Nat} {l:List (List D)} {el xs:List D} {cl:List C} {ks:List (Id × (Nat × Nat × O))}
    (h:o.op=.store t x y) (hd:o.dst=none) (hx:s0.eval x=.one (.eptr r k j off)) (hj:l[j]?=some el) (hy:(s0.eval y).cells=some cl) (hl:cl.length=i.size)
    (hf:FitsL s0 cl xs ks) (hnd:(idsOf ks).Nodup) (hrk:r ∉ idsOf ks) (hoff:off+xs.length≤el.length) :
    OpS P o st (preOf s0 x++preOf s0 y) ((r,(k,m0,.row e sz l))::ks) .bad (updOf r (idsOf ks) (k,st,.row e sz (l.set j (spl el off xs)))):=by
  intro w M n U s a W next Q hS hHs hk hdn ⟨I,hW,hU,hr⟩ hn
  subst hW hU
  obtain ⟨e1,e2⟩:=preOfs_two hS
  have hex:=hr.eval x
  have hey:=hr.eval y
  rw [e1,hx] at hex
  rw [e2] at hey
  obtain ⟨hs,hc⟩:=hey.cells hy
  have hHI:I.H r=some (k,m0,.row e sz l):=by rw [hr.hH]; exact hHs (r,_) (by simp)
  obtain ⟨g,cap,cur,J,h1,h2,h3,h4,h5,h6⟩:=hr.elem hHI st hk hj ⟨hs,hc⟩ hf (fun p hp=>hHs p (List.mem_cons_of_mem _ hp)) hnd hrk hoff
  cases hex with
  | one _ _ hcx =>
    generalize hp:a.eval x=px at hcx
    cases hcx with
    | eptr _ _ _ _ g' p hu hg =>
      obtain ⟨n',c',hg1,rfl⟩:=hg m0 e sz l hHI
      rw [h1] at hg1
      simp only [Value.slice.injEq,Option.some.injEq,Addr.mk.injEq] at hg1
      obtain ⟨⟨rfl,_,_⟩,_,_⟩:=hg1
      have hone:∀ v∈(a.eval y).cells.toList,v.oneCell'=true:=by
        intro v hv
        obtain ⟨q,hq⟩:=List.mem_iff_getElem?.1 hv
        have hlt:q < cl.length:=by have:=(List.getElem?_eq_some_iff.1 hq).1; simp at this; omega
        have:=(hc q cl[q] (List.getElem?_eq_getElem hlt)).one
        simp at hq
        simpa [hq] using this
      have hst:=run_storeCells_at (P:=P) g (j * sz+off) e (a.eval y).cells.toList 0 cur I.W h2 (by simp; omega) hone
      have hrun:(execOp a.eval o).run P I.W=.ok .skip J.W:=by
        have hsz:(a.eval y).cells.size=i.size:=by omega
        simp only [execOp,h,Instr.storeAt,hp,Instr.sureAddr,storeVar]
        simp [ht.sizeOf,hsz,hst,h4]
      rw [Oper.wp,hrun]
      refine hn _ _ ⟨J,rfl,h5,?_⟩
      rw [hd]
      exact h6
end Go.Ev

namespace Go.Ev
variable [Lay]
set_option linter.unusedSimpArgs false

/-! ### plain values -/
def C.plain:C→Option Value
  | .d (.v x)=>some x
  | _=>none
def plainL:List C→Option (List Value)
  | []=>some []
  | c::l=>match c.plain,plainL l with
    | some x,some xs=>some (x::xs)
    | _,_=>none
def SV.plain:SV→Option Value
  | .one c=>c.plain
  | .agg l=>(plainL l).map fun xs=>.agg xs.toArray
  | _=>none

theorem C.plain_ok {I:In} {c:C} {x u:Value} (h:c.plain=some x) (hc:Cok I c u):u=x:=by
  cases c with
  | d y =>
    cases y with
    | v z =>
      simp only [C.plain,Option.some.injEq] at h
      subst h
      cases hc with | d _ _ hc=>cases hc; rfl
    | _=>simp [C.plain] at h
  | _=>simp [C.plain] at h
theorem plainL_ok {I:In}:∀ (l:List C) (xs:List Value) (us:List Value),plainL l=some xs→us.length=l.length→(∀ (i:Nat) (c:C),l[i]?=some c→Cok I c (us.getD i undef))→us=xs
  | [],xs,us,h,hl,_=>by
    simp only [plainL,Option.some.injEq] at h
    subst h
    exact List.eq_nil_of_length_eq_zero hl
  | c::l,xs,[],h,hl,_=>by simp at hl
  | c::l,xs,u::us,h,hl,hc=>by
    simp only [plainL] at h
    cases hp:c.plain with
    | none=>simp [hp] at h
    | some x =>
      cases hq:plainL l with
      | none=>simp [hp,hq] at h
      | some ys =>
        simp only [hp,hq,Option.some.injEq] at h
        subst h
        have h1:=C.plain_ok hp (hc 0 c rfl)
        have h2:=plainL_ok l ys us hq (by simpa using hl) fun i c' hi=>hc (i+1) c' (by simpa using hi)
        simp at h1
        rw [h1,h2]
theorem SV.plain_ok {I:In} {s:SV} {x u:Value} (h:s.plain=some x) (hs:SVok I s u):u=x:=by
  cases hs with
  | one c u hc=>exact C.plain_ok h hc
  | agg l us hl hc =>
    simp only [SV.plain,Option.map_eq_some_iff] at h
    obtain ⟨xs,h1,rfl⟩:=h
    have:=plainL_ok l xs us.toList h1 (by simpa using hl) fun i c hi=>by simpa using hc i c hi
    rw [← this]
  | tup=>simp [SV.plain] at h
  | bad=>simp [SV.plain] at h

theorem SVok.v (I:In) (v:Value) (h:v.oneCell'=true):SVok I (.one (.d (.v v))) v:=.one _ _ (.d _ _ (.v v h))

section
variable {P:Program} {o:Oper}

theorem OpS.bin (k:Nat) (s0:St) {op:BinOp} {t yt:TypeId} {x y:Operand} {vx vy v:Value} (h:o.op=.binOp op t x y yt) (hx:(s0.eval x).plain=some vx) (hy:(s0.eval y).plain=some vy) (h1:v.oneCell'=true)
    (hrun:∀ w,((do eqGuard op t x y vx vy; binOp op t vx vy):Sem Value).run P w=.ok v w):OpS P o k (preOf s0 x++preOf s0 y) [] (.one (.d (.v v))) []:=by
  refine .quiet fun w M n I s a hS _ hr=>⟨v,.v I v h1,?_⟩
  obtain ⟨e1,e2⟩:=preOfs_two hS
  have hex:=hr.eval x
  have hey:=hr.eval y
  rw [e1] at hex
  rw [e2] at hey
  have g1:=SV.plain_ok hx hex
  have g2:=SV.plain_ok hy hey
  have:=hrun I.W
  simp only [execOp,h,g1,g2]
  simp only [Sem.run_bind] at this ⊢
  cases hg:(eqGuard op t x y vx vy).run P I.W with
  | ok b w1=>rw [hg] at this; simp only [Result.andThen_ok] at this ⊢; rw [this]; rfl
  | halt b w1=>rw [hg] at this; simp at this

def binF (op:BinOp):Value→Value→Option Value
  | .int k a,.int k' b =>
    match op with
    | .shl=>if b < 0 then none else some (.int k (k.wrap (a * 2 ^ (min b.toNat k.bits))))
    | .shr=>if b < 0 then none else some (.int k (a.fdiv (2 ^ (min b.toNat k.bits))))
    | op =>
      if k=k' then
        match op with
        | .add=>some (.int k (k.wrap (a+b)))
        | .sub=>some (.int k (k.wrap (a - b)))
        | .mul=>some (.int k (k.wrap (a * b)))
        | .quo=>if b=0 then none else some (.int k (k.wrap (a.tdiv b)))
        | .rem=>if b=0 then none else some (.int k (a.tmod b))
        | .and=>some (.int k (k.wrap (BitVec.ofInt k.bits a &&& BitVec.ofInt k.bits b).toNat))
        | .or=>some (.int k (k.wrap (BitVec.ofInt k.bits a ||| BitVec.ofInt k.bits b).toNat))
        | .xor=>some (.int k (k.wrap (BitVec.ofInt k.bits a ^^^ BitVec.ofInt k.bits b).toNat))
        | .andNot=>some (.int k (k.wrap (BitVec.ofInt k.bits a &&& ~~~BitVec.ofInt k.bits b).toNat))
        | .eql=>some (.bool (a == b))
        | .neq=>some (.bool (a != b))
        | .lss=>some (.bool (a < b))
        | .leq=>some (.bool (a≤b))
        | .gtr=>some (.bool (a > b))
        | .geq=>some (.bool (a≥b))
        | _=>none
      else none
  | .string a,.string b =>
    match op with
    | .add=>if a.size+b.size≤9223372036854775807 then some (.string (a++b)) else none
    | .eql=>some (.bool (a.toList == b.toList))
    | .neq=>some (.bool (!(a.toList == b.toList)))
    | _=>none
  | _,_=>none

theorem binF_one {op:BinOp} {x y v:Value} (h:binF op x y=some v):v.oneCell'=true:=by
  unfold binF at h
  repeat' split at h
  all_goals first
    | (cases h; rfl)
    | cases h

theorem binF_run {op:BinOp} {vx vy v:Value} (t:TypeId) (x y:Operand) (h:binF op vx vy=some v) (w:World):((do eqGuard op t x y vx vy; binOp op t vx vy):Sem Value).run P w=.ok v w:=by
  have hg:(eqGuard op t x y vx vy).run P w=.ok () w:=by
    cases vx<;>cases vy<;>first
      | (simp [binF] at h; done)
      | (unfold eqGuard; cases op<;>rfl)
  rw [Sem.run_bind,hg,Result.andThen_ok]
  cases vx<;>cases vy<;>try (simp [binF] at h; done)
  · rename_i k a k' b
    cases op<;>simp only [binF] at h<;>(repeat' split at h)<;>first
      | (cases h; done)
      | (cases h; simp_all [binOp,Op.shift,Op.intArith,Op.intDiv,Op.intBits,Op.intCmp]; done)
      | (cases h; simp_all [binOp,Op.shift,Op.intArith,Op.intDiv,Op.intBits,Op.intCmp]; omega)
  · rename_i a b
    cases op<;>simp only [binF] at h<;>(repeat' split at h)<;>first
      | (cases h; done)
      | (cases h; rename_i hle; exact run_string_add_sum (P:=P) w a b hle)
      | (cases h; simp [binOp,Op.stringOp]; done)

theorem OpS.un (k:Nat) (s0:St) {op:UnOp} {t:TypeId} {x:Operand} {vx v:Value} (h:o.op=.unOp op t x) (hx:(s0.eval x).plain=some vx) (h1:v.oneCell'=true)
    (hrun:∀ w,(Op.unary op vx).run P w=.ok v w):OpS P o k (preOf s0 x) [] (.one (.d (.v v))) []:=by
  refine .quiet fun w M n I s a hS _ hr=>⟨v,.v I v h1,?_⟩
  have hex:=hr.eval x
  rw [eval_pre hS] at hex
  have g1:=SV.plain_ok hx hex
  simp [execOp,h,g1,hrun]

def unF (op:UnOp):Value→Option Value
  | .bool b=>match op with
    | .not=>some (.bool (!b))
    | _=>none
  | .int k n=>match op with
    | .neg=>some (.int k (k.wrap (0 - n)))
    | .xor=>some (.int k (k.wrap (BitVec.ofInt k.bits (if k.signed then -1 else k.max) ^^^ BitVec.ofInt k.bits n).toNat))
    | _=>none
  | _=>none
theorem unF_one {op:UnOp} {x v:Value} (h:unF op x=some v):v.oneCell'=true:=by
  unfold unF at h
  repeat' split at h
  all_goals first
    | (cases h; rfl)
    | cases h
theorem unF_run {op:UnOp} {x v:Value} (h:unF op x=some v) (w:World):(Op.unary op x).run P w=.ok v w:=by
  cases x<;>simp only [unF] at h<;>(try (cases h; done))<;>cases op<;>simp only at h<;>(try (cases h; done))
  all_goals first
    | (cases h; rfl)
    | (cases h; simp [Op.unary,Op.intArith,Op.intBits]; done)
    | (cases h; simp_all [Op.unary,Op.intArith,Op.intBits]; done)

theorem OpS.conv (k:Nat) (s0:St) {src dst:TypeId} {x:Operand} {vx v:Value} (h:o.op=.convert src dst x) (hx:(s0.eval x).plain=some vx) (h1:v.oneCell'=true)
    (hrun:∀ w,(convert src dst vx).run P w=.ok v w):OpS P o k (preOf s0 x) [] (.one (.d (.v v))) []:=by
  refine .quiet fun w M n I s a hS _ hr=>⟨v,.v I v h1,?_⟩
  have hex:=hr.eval x
  rw [eval_pre hS] at hex
  have g1:=SV.plain_ok hx hex
  simp [execOp,h,g1,hrun]
theorem conv_int {src dst:TypeId} {i j:TI} (hs:TyOk P src i) (hd:TyOk P dst j) {k k0:IntKind} (hk0:i.k=.int k0) (hk:j.k=.int k) (k1:IntKind) (n:Int) (w:World) :
    (convert src dst (.int k1 n)).run P w=.ok (.int k (k.wrap n)) w:=by
  have h1:=hs.und
  have h2:=hd.und
  rw [hk0] at h1
  rw [hk] at h2
  simp only [TK.ok] at h1 h2
  simp [convert,underlying,h1,h2,Conv.intToInt]
theorem OpS.pick (k:Nat) (s0:St) {c x y:Operand} {b:Bool} (h:o.op=.pick c x y) (hc:(s0.eval c).plain=some (.bool b)) :
    OpS P o k (preOf s0 c++preOf s0 (if b then x else y)) [] (s0.eval (if b then x else y)) []:=by
  refine .quiet fun w M n I s a hS _ hr=>⟨a.eval (if b then x else y),?_,?_⟩
  · obtain ⟨_,e2⟩:=preOfs_two hS
    rw [← e2]; exact hr.eval _
  · obtain ⟨e1,_⟩:=preOfs_two hS
    have hex:=hr.eval c
    rw [e1] at hex
    have g1:=SV.plain_ok hc hex
    cases b<;>simp [execOp,h,g1,asBool]

theorem OpS.extract (k:Nat) (s0:St) {x:Operand} {i:Nat} {l:List SV} {v:SV} (h:o.op=.extract x i) (hx:s0.eval x=.tup l) (hv:l[i]?=some v):OpS P o k (preOf s0 x) [] v []:=by
  refine .quiet fun w M n I s a hS _ hr=>?_
  have hex:=hr.eval x
  rw [eval_pre hS,hx] at hex
  generalize hu:a.eval x=u at hex
  cases hex with
  | tup _ us hs hc =>
    have hlt:i < us.size:=by rw [hs]; exact (List.getElem?_eq_some_iff.1 hv).1
    refine ⟨us.getD i undef,hc i v hv,?_⟩
    simp [execOp,h,hu,Instr.extract,hlt]

theorem OpS.nilCheck (k:Nat) (s0:St) {x:Operand} {c:C} (h:o.op=.nilCheck x) (hx:s0.eval x=.one c) (hc:∀ I u,Cok I c u→∃ ad,u=.pointer (some ad)):OpS P o k (preOf s0 x) [] (.one c) []:=by
  refine .quiet fun w M n I s a hS _ hr=>?_
  have hex:=hr.eval x
  rw [eval_pre hS,hx] at hex
  refine ⟨a.eval x,hex,?_⟩
  cases hex with
  | one _ _ hex =>
    obtain ⟨ad,hu⟩:=hc I _ hex
    simp [execOp,h,hu]

def firstsC (s:St):List Operand→Option (List (Bool × List C))
  | []=>some []
  | x::l=>match s.eval x,firstsC s l with
    | .one c,some r=>some ((false,[c])::r)
    | .agg cs,some r=>some ((true,cs)::r)
    | _,_=>none
def capsC (s:St):List Operand→Option (List C)
  | []=>some []
  | x::l=>match s.eval x,capsC s l with
    | .one c,some r=>some (c::r)
    | _,_=>none
end
end Go.Ev

namespace Go.Ev
variable [Lay]
set_option linter.unusedSimpArgs false

theorem add_add (ad:Addr) (f j:Nat):(ad.add f).add j=ad.add (f+j):=by
  unfold Addr.add
  by_cases h1:f=0
  · subst h1; simp
  · by_cases h2:j=0
    · subst h2; simp [h1]
    · simp [h1,h2,Nat.add_assoc]

def C.shift (f:Nat):C→C
  | .ptr r k off=>.ptr r k (off+f)
  | .eptr r k i off=>.eptr r k i (off+f)
  | .d (.pt false l)=>.d (.pt false (l.drop f))
  | .view r m (.pt false l)=>.view r m (.pt false (l.drop f))
  | _=>.bad
def C.isPtr:C→Bool
  | .ptr _ _ _=>true
  | .eptr _ _ _ _=>true
  | .d (.pt false _)=>true
  | .view _ _ (.pt false _)=>true
  | _=>false

theorem Rd.ptShift {W:World} {Z:Nat→Prop} {l:List D} {ad:Addr} (h:Rd W Z (.pt false l) (.pointer (some ad))) (f:Nat):Rd W Z (.pt false (l.drop f)) (.pointer (some (ad.add f))):=by
  cases h with
  | pt _ _ val hcell hrd =>
    have hb:(ad.add f).block=ad.block:=by unfold Addr.add; split<;>rfl
    refine .pt _ _ (fun i=>val (f+i)) (fun i c hi=>?_) (fun i c hi=>?_)
    · rw [List.getElem?_drop] at hi
      rw [add_add,hb]; exact hcell _ c hi
    · rw [List.getElem?_drop] at hi
      exact hrd _ c hi

theorem Cok.shift {I:In} {c:C} {u:Value} (hp:c.isPtr=true) (h:Cok I c u) (f:Nat)
    (hv:∀ r m l,c=.view r m (.pt false l)→∃ k o,I.H r=some (k,m,o)):∃ ad,u=.pointer (some ad)∧Cok I (c.shift f) (.pointer (some (ad.add f))):=by
  cases h with
  | ptr r k off g hu h =>
    refine ⟨_,rfl,?_⟩
    rw [at_plain]; exact .ptr r k _ g hu h
  | eptr r k i off g p hu h =>
    refine ⟨_,rfl,?_⟩
    rw [at_plain]
    refine .eptr r k i _ g _ hu fun m e sz l ho=>?_
    obtain ⟨n,c,h1,h2⟩:=h m e sz l ho
    exact ⟨n,c,h1,by omega⟩
  | d x u h =>
    cases h with
    | pt l ad val hcell hrd=>exact ⟨ad,rfl,.d _ _ (Rd.ptShift (.pt l ad val hcell hrd) f)⟩
    | _=>simp [C.isPtr] at hp
  | view r m x u hu h1 h =>
    cases x with
    | pt b l =>
      cases b with
      | true=>simp [C.isPtr] at hp
      | false =>
        obtain ⟨k,o,ho⟩:=hv r m l rfl
        have h2:=h k o ho
        generalize hx:D.pt false l=x at h2
        cases h2 with
        | pt l' ad val hcell hrd =>
          cases hx
          refine ⟨ad,rfl,.view r m _ _ hu rfl fun k' o' ho'=>?_⟩
          exact Rd.ptShift (.pt _ ad val hcell hrd) f
        | _=>cases hx
    | _=>simp [C.isPtr] at hp
  | _=>simp [C.isPtr] at hp

section
variable {P:Program} {o:Oper}

theorem OpS.fieldAddr (k:Nat) (s0:St) {t:TypeId} {i:TI} (ht:TyOk P t i) {fs:List (Nat × TypeId)} (hk:i.k=.st fs) {fno fo:Nat} {ft:TypeId} {fi:TI} (hf:fs[fno]?=some (fo,ft)) (hft:TyOk P ft fi) (h0:fi.size≠0)
    {x:Operand} {c:C} {pre:List (Id × (Nat × Nat × O))} (h:o.op=.fieldAddr t x fno) (hx:s0.eval x=.one c) (hp:c.isPtr=true) (hn:∀ r m l,c=.view r m (.pt false l)→∃ k o,(r,(k,m,o))∈pre) :
    OpS P o k (preOf s0 x) pre (.one (c.shift fo)) []:=by
  refine .quiet fun w M n I s a hS hH hr=>?_
  have hex:=hr.eval x
  rw [eval_pre hS,hx] at hex
  obtain ⟨fa,hu,hfa⟩:∃ a:Array Field,P.underlying t=some (.struct a)∧a.toList.map (fun f=>(f.offset,f.type))=fs:=by have:=ht.und; rw [hk] at this; exact this
  have hfl:∃ fl,fa[fno]?=some fl∧fl.offset=fo∧fl.type=ft:=by
    rw [← hfa,List.getElem?_map,Option.map_eq_some_iff] at hf
    obtain ⟨fl,h1,h2⟩:=hf
    simp only [Prod.mk.injEq] at h2
    exact ⟨fl,by simpa using h1,h2.1,h2.2⟩
  obtain ⟨fl,h1,h2,h3⟩:=hfl
  cases hex with
  | one _ _ hc =>
    obtain ⟨ad,hu2,hc2⟩:=hc.shift hp fo fun r m l e=>by
      obtain ⟨k',o',ho⟩:=hn r m l e
      exact ⟨k',o',by rw [hr.hH]; exact hH _ ho⟩
    refine ⟨_,.one _ _ hc2,?_⟩
    have hs:(sizeOf fl.type).run P I.W=.ok fi.size I.W:=by rw [h3]; exact hft.sizeOf _
    simp [execOp,h,Instr.fieldAt,run_underlying hu,h1,hu2,Instr.sureAddr,fieldPlace,hs,h0,h2]

end
end Go.Ev

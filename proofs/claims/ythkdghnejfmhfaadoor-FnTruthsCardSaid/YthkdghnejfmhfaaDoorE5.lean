/- A symbolic executor over data by value, proved sound over any program: no conditions. -/
import Derived.Test.YthkdghnejfmhfaaDoorE4
set_option linter.all false
set_option linter.unnecessarySimpa false
set_option linter.unusedSectionVars false
set_option linter.unusedSimpArgs false
set_option linter.unusedVariables false
namespace Go.Proofs
open Go Go.Ev
variable [Lay]
def evG (s:Store) (x:Int × List Int) (t:Tok):Int × List Int:=if x.1=0 then (if opC s x.2 t=0 then (0,nxP s x.2 t) else (opC s x.2 t,[])) else x
def kdG (d:Decl) (x:Option (List Int)) (t:Tok):Option (List Int):=x.bind fun p=>if Tok.ok d t=true then kst p t else none
theorem take_last {l:List Tok} {j:Nat} (h:j+1≤l.length):l.take (j+1)=l.take j++[l.getD j default]:=by
  rw [List.take_add_one,List.getElem?_eq_getElem (by omega),List.getD_eq_getElem?_getD,List.getElem?_eq_getElem (by omega)]; rfl
theorem drop_past {q p:List Int} {i:Nat}:(q++p).drop (q.length+i)=p.drop i:=by
  induction q with
  | nil=>simp
  | cons x q ih=>rw [List.cons_append,List.length_cons,show q.length+1+i=(q.length+i)+1 by omega,List.drop_succ_cons,ih]
theorem take_past {q p:List Int} {i:Nat}:(q++p).take (q.length+i)=q++p.take i:=by
  induction q with
  | nil=>simp
  | cons x q ih=>rw [List.cons_append,List.length_cons,show q.length+1+i=(q.length+i)+1 by omega,List.take_succ_cons,ih,List.cons_append]
section
variable {d:Decl} {s:Store} {l r m:List Tok} {t:Tok} {p q k k':List Int}
theorem evS_fold:∀ j,j≤l.length→evS s l j=(l.take j).foldl (evG s) (0,[])
  | 0,_=>rfl
  | j+1,h=>by
    rw [take_last h,List.foldl_append,← evS_fold j (by omega),evS]
    show _=evG s (evS s l j) (l.getD j default)
    unfold evG
    rfl
theorem kdS_fold:∀ j,j≤l.length→kdS d l j=(l.take j).foldl (kdG d) (some [])
  | 0,_=>rfl
  | j+1,h=>by
    rw [take_last h,List.foldl_append,← kdS_fold j (by omega),kdS]; rfl
theorem evS_all:evS s l l.length=l.foldl (evG s) (0,[]):=by rw [evS_fold _ (Nat.le_refl _),List.take_length]
theorem kdS_all:kdS d l l.length=l.foldl (kdG d) (some []):=by rw [kdS_fold _ (Nat.le_refl _),List.take_length]
theorem evG_stay {x:Int × List Int} (h:¬ x.1=0):∀ l:List Tok,l.foldl (evG s) x=x
  | []=>rfl
  | t::l=>by
    have:evG s x t=x:=by unfold evG; rw [if_neg h]
    rw [List.foldl_cons,this,evG_stay h l]
theorem kdG_stay:∀ l:List Tok,l.foldl (kdG d) none=none
  | []=>rfl
  | _::l=>kdG_stay l
theorem kst_base (h:kst p t=some k):kst (q++p) t=some (q++k):=by
  unfold kst at h ⊢
  split at h
  · rename_i hc
    simp only [Option.some.injEq] at h
    have e:(q++p).length - (takesL t.op).length=q.length+(p.length - (takesL t.op).length):=by rw [List.length_append]; omega
    rw [e,drop_past,take_past,if_pos ⟨by rw [List.length_append]; omega,hc.2⟩,List.append_assoc,h]
  · cases h
theorem kdG_one (h:(t::l).foldl (kdG d) (some p)=some k):∃ k1,Tok.ok d t=true∧kst p t=some k1∧l.foldl (kdG d) (some k1)=some k:=by
  rw [List.foldl_cons] at h
  have e:kdG d (some p) t=if Tok.ok d t=true then kst p t else none:=rfl
  rw [e] at h
  split at h
  · rename_i ho
    cases h1:kst p t with
    | none=>rw [h1,kdG_stay] at h; cases h
    | some k1=>rw [h1] at h; exact ⟨k1,ho,rfl,h⟩
  · rw [kdG_stay] at h; cases h
theorem kdG_base:∀ {l:List Tok} {p:List Int},l.foldl (kdG d) (some p)=some k→l.foldl (kdG d) (some (q++p))=some (q++k)
  | [],p,h=>by
    simp only [List.foldl_nil,Option.some.injEq] at h ⊢; rw [h]
  | t::l,p,h=>by
    obtain ⟨k1,h1,h2,h3⟩:=kdG_one h
    rw [List.foldl_cons]
    have e:kdG d (some (q++p)) t=some (q++k1):=by
      show (if Tok.ok d t=true then kst (q++p) t else none)=_
      rw [if_pos h1,kst_base h2]
    rw [e]; exact kdG_base h3
theorem topN_base {i:Nat} (h:1≤i) (hi:i≤p.length):topN (q++p) i=topN p i:=by
  unfold topN
  rw [List.length_append,show q.length+p.length - i=q.length+(p.length - i) by omega,getD_app2]
theorem op_base (h:takesN t.op≤p.length):opN s (q++p) t=opN s p t∧opC s (q++p) t=opC s p t∧nxP s (q++p) t=q++nxP s p t:=by
  have hb:=takesN_bnd t.op
  have h1:opN s (q++p) t=opN s p t∧opC s (q++p) t=opC s p t:=by
    unfold opN opC
    by_cases h0:takesN t.op=0
    · rw [if_pos h0,if_pos h0,if_pos h0,if_pos h0]; exact ⟨rfl,rfl⟩
    · rw [if_neg h0,if_neg h0,if_neg h0,if_neg h0]
      rw [topN_base (i:=1) (by omega) (by omega)]
      by_cases h1:takesN t.op=1
      · rw [if_pos h1,if_pos h1,if_pos h1,if_pos h1]; exact ⟨rfl,rfl⟩
      · rw [if_neg h1,if_neg h1,if_neg h1,if_neg h1,topN_base (i:=2) (by omega) (by omega)]; exact ⟨rfl,rfl⟩
  refine ⟨h1.1,h1.2,?_⟩
  unfold nxP
  rw [h1.1,List.length_append,show q.length+p.length - (takesN t.op).toNat=q.length+(p.length - (takesN t.op).toNat) by omega,take_past,List.append_assoc]
theorem evG_base:∀ {l:List Tok} {p k:List Int},l.foldl (kdG d) (some k)=some k'→k.length=p.length →
    ((l.foldl (evG s) (0,p)).1=0→l.foldl (evG s) (0,q++p)=(0,q++(l.foldl (evG s) (0,p)).2))∧(l.foldl (evG s) (0,q++p)).1=(l.foldl (evG s) (0,p)).1
  | [],p,k,h,hl=>⟨fun _=>rfl,rfl⟩
  | t::l,p,k,h,hl=>by
    obtain ⟨k1,h1,h2,h3⟩:=kdG_one h
    obtain ⟨t1,t2,t3⟩:=takes_same (Tok.ok_op h1)
    have hb:=takesN_bnd t.op
    unfold kst at h2
    split at h2
    · rename_i hc
      simp only [Option.some.injEq] at h2
      obtain ⟨b1,b2,b3⟩:=op_base (s:=s) (q:=q) (p:=p) (t:=t) (by omega)
      rw [List.foldl_cons,List.foldl_cons]
      by_cases ho:opC s p t=0
      · have e1:evG s (0,p) t=(0,nxP s p t):=by unfold evG; rw [if_pos rfl,if_pos ho]
        have e2:evG s (0,q++p) t=(0,q++nxP s p t):=by unfold evG; rw [if_pos rfl,b2,if_pos ho,b3]
        rw [e1,e2]
        refine evG_base h3 ?_
        rw [← h2]; unfold nxP
        simp only [List.length_append,List.length_take,List.length_singleton]; omega
      · have e1:evG s (0,p) t=(opC s p t,[]):=by unfold evG; rw [if_pos rfl,if_neg ho]
        have e2:evG s (0,q++p) t=(opC s p t,[]):=by unfold evG; rw [if_pos rfl,b2,if_neg ho]
        rw [e1,e2,evG_stay (by exact ho)]
        exact ⟨fun h9=>absurd h9 ho,rfl⟩
    · cases h2
theorem pile_at (hk:¬ Expr.kind d l=0) (hs:Store.okIn d s=true) (hf:FitS s):∀ j,j≤l.length→(evS s l j).1=0→PileI d l j (evS s l j).2
  | 0,_,_=>PileI.zero
  | j+1,h,h0=>by
    rw [evS] at h0 ⊢
    split at h0
    · rename_i h1
      rw [if_pos h1]
      split at h0
      · rename_i h2
        rw [if_pos h2]
        exact (pile_at hk hs hf j (by omega) h1).next hk hs hf (by omega)
      · rename_i h2
        exact absurd h0 h2
    · rename_i h1; exact absurd h0 h1
theorem kind_two (h:¬ Expr.kind d l=0):kdS d l l.length=some [Expr.kind d l]∧l.length≤40:=by
  have hl:l.length≤40:=kind_len h
  obtain ⟨k,hk⟩:=kd_next_some h (Nat.le_refl l.length)
  have h1:k.length=1:=by
    by_cases h1:k.length=1
    · exact h1
    · exact absurd (kind_many rfl hk h1) h
  have h2:=kind_one hl rfl hk h1
  rw [hk,h2]
  match k,h1 with
  | [x],_=>exact ⟨rfl,hl⟩
theorem kind_of (hl:l.length≤40) {x:Int} (h:l.foldl (kdG d) (some [])=some [x]):Expr.kind d l=x:=by
  rw [← kdS_all] at h
  exact kind_one hl rfl h rfl
theorem ev_truth (hk:Expr.kind d l=2) (hs:Store.okIn d s=true) (hf:FitS s) (h0:evC s l=0):l.foldl (evG s) (0,[])=(0,[evN s l])∧(evN s l=0∨evN s l=1):=by
  have hk0:¬ Expr.kind d l=0:=by omega
  have h1:=pile_at hk0 hs hf l.length (Nat.le_refl _) h0
  have h2:=pile_end hk0 (Nat.le_refl _) (Nat.le_refl _) h1
  obtain ⟨k,a1,a2,a3,a4⟩:=h1
  rw [(kind_two hk0).1,hk] at a1
  simp only [Option.some.injEq] at a1
  have a5:=a4 0 (by omega) (by rw [← a1]; rfl)
  have e:evN s l=(evS s l l.length).2.getD 0 default:=by unfold evN; exact if_pos h0
  rw [e,← evS_all]
  refine ⟨?_,a5⟩
  unfold evC at h0
  generalize evS s l l.length=x at *
  obtain ⟨x1,x2⟩:=x
  simp only at h0 h2 ⊢
  subst h0
  match x2,h2 with
  | [y],_=>rfl
end
section
variable {d:Decl} {s:Store} {l m:List Tok}
theorem two_kinds (hl:l.foldl (kdG d) (some [])=some [2]) (hm:m.foldl (kdG d) (some [])=some [2]) {o:Int} (ho:o=20∨o=21) :
    (l++m++[⟨o,0⟩,⟨19,0⟩]:List Tok).foldl (kdG d) (some [])=some [2]∧(l++[⟨19,0⟩]++(m++[⟨19,0⟩,⟨o,0⟩]):List Tok).foldl (kdG d) (some [])=some [2]:=by
  have h2:m.foldl (kdG d) (some [2])=some [2,2]:=kdG_base (q:=[2]) hm
  have n1:kdG d (some [2]) ⟨19,0⟩=some [2]:=rfl
  have n2:kdG d (some [2,2]) ⟨19,0⟩=some [2,2]:=rfl
  have n3:kdG d (some [2,2]) ⟨o,0⟩=some [2]:=by rcases ho with rfl | rfl<;>rfl
  refine ⟨?_,?_⟩
  · rw [List.foldl_append,List.foldl_append,hl,h2,List.foldl_cons,n3,List.foldl_cons,n1]; rfl
  · simp only [List.foldl_append,hl,List.foldl_cons,List.foldl_nil,n1,h2,n2,n3]
theorem two_bad {x:Int × List Int} (hx:l.foldl (evG s) (0,[])=x) (h:¬ x.1=0) (r:List Tok):evC s (l++r)=x.1∧evN s (l++r)=0:=by
  unfold evC evN
  rw [evS_all,List.foldl_append,hx,evG_stay h,if_neg h]; exact ⟨rfl,rfl⟩
theorem ev_not {p:List Int} {v:Int}:evG s (0,p++[v]) ⟨19,0⟩=(0,p++[1 - v]):=by
  have h1:takesN 19=1:=by decide
  have h2:topN (p++[v]) 1=v:=by
    unfold topN; rw [List.length_append,List.length_singleton,show p.length+1 - 1=p.length+0 by omega,getD_app2]; rfl
  have h3:opC s (p++[v]) ⟨19,0⟩=0:=by
    unfold opC; rw [if_neg (by decide),if_pos h1]; unfold ofC; rw [if_neg (by decide),if_neg (by decide)]
  have h4:opN s (p++[v]) ⟨19,0⟩=1 - v:=by
    unfold opN; rw [if_neg (by decide),if_pos h1,h2]; unfold ofN; rw [if_neg (by decide),if_neg (by decide)]
  unfold evG
  rw [if_pos rfl,h3,if_pos rfl]; unfold nxP
  rw [h4,h1,List.length_append,List.length_singleton,show p.length+1 - (1:Int).toNat=p.length+0 by omega,take_past]; simp
theorem ev_join {v u o:Int} (ho:o=20∨o=21) (_hv:v=0∨v=1) (_hu:u=0∨u=1):evG s (0,[v,u]) ⟨o,0⟩=(0,[if o=20 then min v u else max v u]):=by
  rcases ho with rfl | rfl<;>rfl
theorem other_ev (hk:Expr.kind d l=2) (hs:Store.okIn d s=true) (hf:FitS s) (h0:evC s l=0) (hm:m=[⟨4,0⟩]∨m=l++[⟨19,0⟩]) :
    ∃ u,(u=0∨u=1)∧∀ v,m.foldl (evG s) (0,[v])=(0,[v,u]):=by
  obtain ⟨h1,h2⟩:=ev_truth hk hs hf h0
  have hk2:=(kind_two (d:=d) (l:=l) (by omega)).1
  rw [kdS_all] at hk2
  rcases hm with rfl | rfl
  · exact ⟨1,.inr rfl,fun v=>rfl⟩
  · refine ⟨1 - evN s l,by omega,fun v=>?_⟩
    have h3:=(evG_base (s:=s) (q:=[v]) hk2 rfl).1 (by rw [h1])
    rw [List.foldl_append,show ((0:Int),[v])=(0,[v]++[]) from rfl,h3,h1]
    exact ev_not (p:=[v])
theorem two_vals (hk:Expr.kind d l=2) (hs:Store.okIn d s=true) (hf:FitS s) (h0:evC s l=0) {u:Int} (hu:u=0∨u=1) (hm:∀ v,m.foldl (evG s) (0,[v])=(0,[v,u])) {o:Int} (ho:o=20∨o=21) :
    (l++m++[⟨o,0⟩,⟨19,0⟩]:List Tok).foldl (evG s) (0,[])=(0,[1 - if o=20 then min (evN s l) u else max (evN s l) u]) ∧
    (l++[⟨19,0⟩]++(m++[⟨19,0⟩,⟨o,0⟩]):List Tok).foldl (evG s) (0,[])=(0,[if o=20 then min (1 - evN s l) (1 - u) else max (1 - evN s l) (1 - u)]):=by
  obtain ⟨h1,h2⟩:=ev_truth hk hs hf h0
  refine ⟨?_,?_⟩
  · rw [List.foldl_append,List.foldl_append,h1,hm,List.foldl_cons,ev_join ho h2 hu,List.foldl_cons]
    exact ev_not (p:=[])
  · have e1:∀ v:Int,evG s (0,[v]) ⟨19,0⟩=(0,[1 - v]):=fun v=>ev_not (p:=[])
    have e2:∀ v w:Int,evG s (0,[v,w]) ⟨19,0⟩=(0,[v,1 - w]):=fun v w=>ev_not (p:=[v])
    simp only [List.foldl_append,h1,List.foldl_cons,List.foldl_nil,e1,hm,e2]
    exact ev_join ho (by omega) (by omega)
theorem evC_of {l:List Tok} {v:Int} (h:l.foldl (evG s) (0,[])=(0,[v])):evC s l=0∧evN s l=v:=by
  unfold evC evN
  rw [evS_all,h]; exact ⟨rfl,rfl⟩
theorem law_Truths (hk:Expr.kind d l=2) (hs:Store.ok d s=true) (hf:FitS s) (hl:l.length≤17) (hm:m=[⟨4,0⟩]∨m=l++[⟨19,0⟩]) :
    (Eval.c d (l++m++[⟨20,0⟩,⟨19,0⟩]) s=Eval.c d l s∧Eval.c d (l++[⟨19,0⟩]++(m++[⟨19,0⟩,⟨21,0⟩])) s=Eval.c d l s ∧
     Eval.c d (l++m++[⟨21,0⟩,⟨19,0⟩]) s=Eval.c d l s∧Eval.c d (l++[⟨19,0⟩]++(m++[⟨19,0⟩,⟨20,0⟩])) s=Eval.c d l s) ∧
    Eval.n d (l++m++[⟨20,0⟩,⟨19,0⟩]) s=Eval.n d (l++[⟨19,0⟩]++(m++[⟨19,0⟩,⟨21,0⟩])) s ∧
    Eval.n d (l++m++[⟨21,0⟩,⟨19,0⟩]) s=Eval.n d (l++[⟨19,0⟩]++(m++[⟨19,0⟩,⟨20,0⟩])) s:=by
  have hi:Store.okIn d s=true:=(Bool.and_eq_true_iff.1 hs).2
  have hk2:=(kind_two (d:=d) (l:=l) (by omega)).1
  rw [kdS_all,hk] at hk2
  have hm2:m.foldl (kdG d) (some [])=some [2]:=by
    rcases hm with rfl | rfl
    · rfl
    · rw [List.foldl_append,hk2]; rfl
  have hml:m.length≤18:=by
    rcases hm with rfl | rfl
    · show 1≤18; omega
    · rw [List.length_append]; show l.length+1≤18; omega
  have A:∀ o,o=20∨o=21→Expr.kind d (l++m++[⟨o,0⟩,⟨19,0⟩])=2∧Expr.kind d (l++[⟨19,0⟩]++(m++[⟨19,0⟩,⟨o,0⟩]))=2:=fun o ho=>by
    obtain ⟨a1,a2⟩:=two_kinds hk2 hm2 ho
    refine ⟨kind_of ?_ a1,kind_of ?_ a2⟩
    · simp only [List.length_append,List.length_cons,List.length_nil]; omega
    · simp only [List.length_append,List.length_cons,List.length_nil]; omega
  have E:∀ r,Expr.kind d r=2→Eval.c d r s=evC s r∧Eval.n d r s=evN s r:=fun r hr=>by
    have h9:=eval_yes (d:=d) (l:=r) (s:=s) ⟨hs,by omega⟩
    exact ⟨h9.2.symm,h9.1.symm⟩
  obtain ⟨x1,y1⟩:=E _ (A 20 (.inl rfl)).1
  obtain ⟨x2,y2⟩:=E _ (A 20 (.inl rfl)).2
  obtain ⟨x3,y3⟩:=E _ (A 21 (.inr rfl)).1
  obtain ⟨x4,y4⟩:=E _ (A 21 (.inr rfl)).2
  rw [x1,x2,x3,x4,y1,y2,y3,y4,(E l hk).1]
  by_cases h0:evC s l=0
  · obtain ⟨u,hu,hm3⟩:=other_ev hk hi hf h0 hm
    have h2:=(ev_truth hk hi hf h0).2
    have r20:=two_vals hk hi hf h0 hu hm3 (o:=20) (.inl rfl)
    have r21:=two_vals hk hi hf h0 hu hm3 (o:=21) (.inr rfl)
    obtain ⟨p1,q1⟩:=evC_of r20.1
    obtain ⟨p2,q2⟩:=evC_of r20.2
    obtain ⟨p3,q3⟩:=evC_of r21.1
    obtain ⟨p4,q4⟩:=evC_of r21.2
    rw [p1,p2,p3,p4,q1,q2,q3,q4,h0]
    refine ⟨⟨rfl,rfl,rfl,rfl⟩,?_,?_⟩
    · rw [if_pos rfl,if_neg (by decide)]; omega
    · rw [if_neg (by decide),if_pos rfl]; omega
  · have e:(l.foldl (evG s) (0,[])).1=evC s l:=by unfold evC; rw [evS_all]
    have hb:=fun r=>two_bad (s:=s) (l:=l) rfl (by rw [e]; exact h0) r
    rw [e] at hb
    rw [List.append_assoc,List.append_assoc,List.append_assoc,List.append_assoc,(hb _).1,(hb _).1,(hb _).1,(hb _).1,(hb _).2,(hb _).2,(hb _).2,(hb _).2]
    exact ⟨⟨rfl,rfl,rfl,rfl⟩,rfl,rfl⟩
end
end Go.Proofs

/- The statement Rows.FnExactValOfCardSaid of the law FnExactValOf, proved for every input that the row speaks of; no condition beyond the row's own. -/
import Derived.Test.YthkdghnejfmhfaaGreatDoorCards
import Derived.Test.YthkdghnejfmhfaaGreatDoorTie
import Derived.Test.YthkdghnejfmhfaaGreatDoorF5
import Derived.WalkKit
import Derived.ProofKit
import Derived.OpenShut
import Derived.Deep.DeepHandedRow
import Derived.Deep.DeepWitnessRowRef
import Derived.Lib.LaidTab
set_option linter.all false
set_option linter.unnecessarySimpa false
set_option linter.unusedSectionVars false
set_option linter.unusedSimpArgs false
set_option linter.unusedVariables false
namespace Go.Proofs.YthkdghnejfmhfaaGreatDoor
open Go Go.Ev Go.ChangeShapes Go.WideShapes Go.ChangeAt Go.RowKit
theorem own:ownKnob Tryz.prog.godebug=none:=by kernel_rfl
theorem laidOut:laidOutB Tryz.prog=true:=by kernel_rfl
theorem gTab:Tryz.prog.globalNamed "strings.asciiSpace" = some 0:=by kernel_rfl
theorem gTabType:(Tryz.prog.globals[0]?).map (·.type)=some 192:=by kernel_rfl
theorem cellsA:Tryz.prog.cellsOf 192=256:=by kernel_rfl
theorem cells5:Tryz.prog.cellsOf 5=1:=by kernel_rfl
theorem asciiData:(Rows.laid_strings_asciiSpace:DataW Unit)=Lib.tabData .u8 Lib.asciiSpaceTab:=by kernel_rfl
/-- What the rows' list gives. -/
theorem laid_of {W:World} (h:laidMet Tryz.prog [("unicode.White_Space",Rows.laid_unicode_White_Space),("strings.asciiSpace",Rows.laid_strings_asciiSpace)] W):Laid W fun b=>b < W.heap.size:=by
  rw [asciiData] at h
  obtain ⟨ps,⟨_,_,_,_,_,_,_,_,_,_,hrest,_⟩,_⟩:=h
  obtain ⟨g',t',cs,fuel,p,q,hg',ht',hvar,hd,_,_⟩:=hrest
  obtain rfl:=Option.some.inj (gTab.symm.trans hg')
  obtain rfl:=Option.some.inj (gTabType.symm.trans ht')
  have htab:Lib.TabIs Tryz.prog W "strings.asciiSpace" .u8 Lib.asciiSpaceTab:=by
    unfold Lib.TabIs
    rw [hvar,← Lib.cells_of_tab Tryz.underlying192 Tryz.underlying5 cells5 cellsA hd]
  have hc:∀ c:Nat,c < 256→W.cell? ⟨0,c,none⟩=some (.int .u8 (if Lib.isSp (UInt8.ofNat c) then 1 else 0)):=fun c hc=>by
    rw [htab.cell gTab c (by rw [Lib.asciiSpaceTab_length]; exact hc),Lib.asciiSpaceTab_at c hc]
  intro p hp
  obtain rfl:=List.mem_singleton.1 hp
  refine ⟨World.block_lt_of_cell? W _ (hc 0 (by decide)),fun i c hi=>?_⟩
  simp only [List.getElem?_map,Option.map_eq_some_iff] at hi
  obtain ⟨j,hj,rfl⟩:=hi
  obtain ⟨hlt,he⟩:=List.getElem?_eq_some_iff.1 hj
  simp only [List.length_range,List.getElem_range] at hlt he
  subst he
  exact ⟨_,hc i hlt,.v _ rfl⟩

/-- The witness: the settled world with two blocks more (the table's rows and its struct), the two variables holding what their initialisers lay. -/
noncomputable def laidWorld (os:Os):World :=
  let N:=(World.settled Tryz.prog os).heap.size
  let w0:=World.holding Tryz.prog os ⟨#[.cells #[.int .u16 9,.int .u16 13,.int .u16 1,.int .u16 32,.int .u16 133,.int .u16 101,.int .u16 160,.int .u16 5760,.int .u16 5600,.int .u16 8192,.int .u16 8202,.int .u16 1,.int .u16 8232,.int .u16 8233,.int .u16 1,.int .u16 8239,.int .u16 8287,.int .u16 48,.int .u16 12288,.int .u16 12288,.int .u16 1] 207,.cells #[.slice (some ⟨N,0,none⟩) 7 7,.slice none 0 0,.int .i64 2] 204],#[],[]⟩
  let put (h:Array Obj) (g:Nat) (cs:Array Value):Array Obj:=h.modify g fun
    | .cells _ t frozen=>.cells cs t frozen
    | o=>o
  { w0 with heap:=put (put w0.heap 0 (Lib.asciiSpaceTab.map fun z=>Value.int .u8 z).toArray) 1 #[.pointer (some ⟨N+1,0,none⟩)] }
theorem laid_met (os:Os) (args:Array Value):laidMet Tryz.prog [("unicode.White_Space",Rows.laid_unicode_White_Space),("strings.asciiSpace",Rows.laid_strings_asciiSpace)] ((laidWorld os).forCall (fun _ _=>0) ⟨#[],args,[]⟩).memory :=
  laidMet_of_run' 8 (by kernel_rfl) (by kernel_rfl)
abbrev Good9 (x:ByteArray):Prop:=x.size≤maxLen
theorem r9:TyR Tryz.prog 9 (fun x:ByteArray=>[.v (.string x)]) 1 Good9:=TyR.str Tryz.underlying9 (by kernel_rfl)
abbrev Good22 (x:List ByteArray):Prop:=x.length≤maxLen∧∀ y∈x,Good9 y
theorem r22:TyR Tryz.prog 22 (fun l:List ByteArray=>[.sl false 9 1 (List.map strc l)]) 1 Good22:=TyR.slice Tryz.underlying22 (by kernel_rfl) r9
abbrev Good2 (x:Int):Prop:=(Lit.int .i64 x).wf=true
theorem r2:TyR Tryz.prog 2 (fun x:Int=>[.v (.int .i64 x)]) 1 Good2:=TyR.int Tryz.underlying2 (by kernel_rfl)
abbrev Good114 (x:Arr):Prop:=Good9 x.name∧Good2 x.size
theorem r114:TyR Tryz.prog 114 Arr.c 2 Good114:=TyR.st2 Arr.mk Tryz.underlying114 (by kernel_rfl) r9 r2 rfl rfl (fun _ _=>rfl) (fun _=>rfl) (fun _ _ h0 h1=>⟨h0,h1⟩)
abbrev Good23 (x:List Arr):Prop:=x.length≤maxLen∧∀ y∈x,Good114 y
theorem r23:TyR Tryz.prog 23 (fun l:List Arr=>[.sl false 114 2 (List.map Arr.c l)]) 1 Good23:=TyR.slice Tryz.underlying23 (by kernel_rfl) r114
abbrev Good25 (x:Decl):Prop:=Good22 x.vars∧Good22 x.flags∧Good23 x.arrays
theorem r25:TyR Tryz.prog 25 Decl.c25 3 Good25:=TyR.st3 Decl.mk Tryz.underlying25 (by kernel_rfl) r22 r22 r23 rfl rfl rfl (fun _ _ _=>rfl) (fun _=>rfl) (fun _ _ _ h0 h1 h2=>⟨h0,h1,h2⟩)
abbrev Good79 (x:Tok):Prop:=Good2 x.op∧Good2 x.n
theorem r79:TyR Tryz.prog 79 Tok.c 2 Good79:=TyR.st2 Tok.mk Tryz.underlying79 (by kernel_rfl) r2 r2 rfl rfl (fun _ _=>rfl) (fun _=>rfl) (fun _ _ h0 h1=>⟨h0,h1⟩)
abbrev Good26 (x:List Tok):Prop:=x.length≤maxLen∧∀ y∈x,Good79 y
theorem r26:TyR Tryz.prog 26 (fun l:List Tok=>[.sl false 79 2 (List.map Tok.c l)]) 1 Good26:=TyR.slice Tryz.underlying26 (by kernel_rfl) r79
abbrev Good4 (x:Bool):Prop:=True
theorem r4:TyR Tryz.prog 4 (fun x:Bool=>[.v (.bool x)]) 1 Good4:=TyR.bool Tryz.underlying4 (by kernel_rfl)
abbrev Good124 (x:Iv):Prop:=Good2 x.lo∧Good2 x.hi
theorem r124:TyR Tryz.prog 124 Iv.c 2 Good124:=TyR.st2 Iv.mk Tryz.underlying124 (by kernel_rfl) r2 r2 rfl rfl (fun _ _=>rfl) (fun _=>rfl) (fun _ _ h0 h1=>⟨h0,h1⟩)
abbrev Good27 (x:List Iv):Prop:=x.length≤maxLen∧∀ y∈x,Good124 y
theorem r27:TyR Tryz.prog 27 (fun l:List Iv=>[.sl false 124 2 (List.map Iv.c l)]) 1 Good27:=TyR.slice Tryz.underlying27 (by kernel_rfl) r124
abbrev Good29 (x:Env):Prop:=Good4 x.live∧Good27 x.ints∧Good27 x.arrs
theorem r29:TyR Tryz.prog 29 Env.c29 3 Good29:=TyR.st3 Env.mk Tryz.underlying29 (by kernel_rfl) r4 r27 r27 rfl rfl rfl (fun _ _ _=>rfl) (fun _=>rfl) (fun _ _ _ h0 h1 h2=>⟨h0,h1,h2⟩)
set_option maxRecDepth 100000 in
/-- What the walk gives, for every argument and every world that holds the listed variables. -/
theorem contract_FnExactValOf (H:Type) (enc:TypeId × Value→H) (W:World) (base:Nat) (args:Array Value) (ds gs:List (DataW H)) (before:List MemPlace)
    (hval:∀ (j:Nat) t v,Tryz.f3.params[j]?=some t→args[j]?=some v→Value.okWide Tryz.prog W .any base t v)
    (hW:DataW.Whole enc Tryz.prog Tryz.f3.params.toList Rows.fnExactValOfSpec.vars false W args.toList ds gs before) (hL:laidMetH Tryz.prog Rows.fnExactValOfRow.laid W) :
    Calls Tryz.prog 3 args W fun e W'=>∃ v,e=.returned v∧Rows.fnExactValOfSpec.post enc Tryz.prog Tryz.f3 false true false false W args v W':=by
  have hW':=hW
  obtain ⟨p,q,hA0,hV,rfl,hfz,hnd⟩:=hW
  have hA:DataW.TrodAll enc Tryz.prog W 0 (fun _=>true) true Tryz.f3.params.toList args.toList ds p:=hA0
  rw [Tryz.params3] at hA hval
  obtain ⟨v0,vs0,d0,ds0,p0,q0,hargs,rfl,rfl,h0,tr0⟩:=trodAll_cons hA
  obtain ⟨v1,vs1,d1,ds1,p1,q1,rfl,rfl,rfl,h1,tr1⟩:=trodAll_cons tr0
  obtain ⟨v2,vs2,d2,ds2,p2,q2,rfl,rfl,rfl,h2,tr2⟩:=trodAll_cons tr1
  obtain ⟨v3,vs3,d3,ds3,p3,q3,rfl,rfl,rfl,h3,tr3⟩:=trodAll_cons tr2
  obtain ⟨rfl,rfl,rfl⟩:=trodAll_nil tr3
  obtain rfl:args=#[v0,v1,v2,v3]:=by cases args; simp_all
  obtain ⟨rfl,rfl⟩:=trodVars_none hV
  obtain ⟨x0,g0,k0,e0,c0⟩:=r25.arg Tryz.underlying25 (hval 0 25 v0 rfl rfl) h0
  obtain ⟨x1,g1,k1,e1,c1⟩:=r26.arg1 (one_sl Tryz.underlying26 (hval 1 26 v1 rfl rfl)) h1
  obtain ⟨x2,g2,k2,e2,c2⟩:=r29.arg Tryz.underlying29 (hval 2 29 v2 rfl rfl) h2
  obtain ⟨x3,g3,k3,e3,c3⟩:=r2.arg1 (one_int Tryz.underlying2 (hval 3 2 v3 rfl rfl)) h3
  obtain ⟨G3,E3,C3⟩:=args_cons (p:=(false,1)) (sh:=[]) (vs:=[]) (ds:=[]) (g:=g0) e3 c3 rfl (by simp) rfl (by simp)
  obtain ⟨G2,E2,C2⟩:=args_cons (p:=(true,3))  e2 c2 rfl (by simp) E3 C3
  obtain ⟨G1,E1,C1⟩:=args_cons (p:=(false,1))  e1 c1 rfl (by simp) E2 C2
  obtain ⟨G0,E0,C0⟩:=args_cons (p:=(true,3))  e0 c0 rfl (by simp) E1 C1
  have q0:∀ x∈Decl.names x0,x.size≤9223372036854775807:=names_good k0.1.2 k0.2.1.2 k0.2.2.2
  have q1:∀ x∈x0.vars,0≤strW x∧strW x≤9223372036854775807:=strs_good k0.1.2
  have q2:∀ x∈x0.flags,0≤strW x∧strW x≤9223372036854775807:=strs_good k0.2.1.2
  have q3:∀ x∈x0.arrays,0≤arrW x∧arrW x≤9223372036854775807:=arrs_good k0.2.2.2
  have q4:FitE x2:=⟨fun x hx=>⟨fit_good (k2.2.1.2 x hx).1,fit_good (k2.2.1.2 x hx).2⟩,fun x hx=>⟨fit_good (k2.2.2.2 x hx).1,fit_good (k2.2.2.2 x hx).2⟩⟩
  have hcall:=(c_FnExactValOf x0 x1 x2 x3 q0 q1 q2 q3 q4).law (laid_of hL) (args:=#[v0,v1,v2,v3]) E0 (by simpa only [List.append_assoc,List.append_nil] using C0)
  refine hcall.mono fun e W' ⟨he,hb⟩=>?_
  subst he
  have hread:(Tryz.f3.params.toList.all fun t=>Tryz.prog.readableRec t&&decide (t < Tryz.prog.types.size))=true:=by kernel_rfl
  exact ⟨_,rfl,post_law laidOut hW' rfl rfl rfl rfl hb (fun t ht=>by simpa using List.all_eq_true.1 hread t ht) rfl Tryz.underlying4⟩
theorem witness_FnExactValOf (os:Os) {H:Type} (enc:TypeId × Value→H):(OpenSpec.ofChange Rows.fnExactValOfSpec).preRow enc Tryz.prog Tryz.f3 Rows.fnExactValOfRow.domain false Rows.fnExactValOfRow.laid ((laidWorld os).forCall (fun _ _=>0) ⟨#[],#[.agg #[.slice none 0 0,.slice none 0 0,.slice none 0 0],.slice none 0 0,.agg #[.bool false,.slice none 0 0,.slice none 0 0],.int .i64 0],[]⟩).memory #[.agg #[.slice none 0 0,.slice none 0 0,.slice none 0 0],.slice none 0 0,.agg #[.bool false,.slice none 0 0,.slice none 0 0],.int .i64 0]:=by
  have hw:(DataW.whole enc Tryz.prog ((laidWorld os).forCall (fun _ _=>0) ⟨#[],#[.agg #[.slice none 0 0,.slice none 0 0,.slice none 0 0],.slice none 0 0,.agg #[.bool false,.slice none 0 0,.slice none 0 0],.int .i64 0],[]⟩).memory Tryz.f3.params.toList Rows.fnExactValOfSpec.vars false #[Value.agg #[.slice none 0 0,.slice none 0 0,.slice none 0 0],.slice none 0 0,.agg #[.bool false,.slice none 0 0,.slice none 0 0],.int .i64 0].toList 8).map (fun x=>(x.1,x.2.1)) =
      some ([.agg [.nil,.nil,.nil],.nil,.agg [.lit (.bool false),.nil,.nil],.lit (.int .i64 0)],[]):=by kernel_rfl
  obtain ⟨⟨y1,y2,y3⟩,hx,hx1⟩:=Option.map_eq_some_iff.1 hw
  simp only [Prod.mk.injEq] at hx1
  obtain ⟨rfl,rfl⟩:=hx1
  exact OpenSpec.preRow_of_cond 8 hx (by kernel_rfl) (fun k hk=>by cases hk) (by kernel_rfl) (laid_met os _)
theorem wv_FnExactValOf (os:Os):((laidWorld os).forCall (fun _ _=>0) ⟨#[],#[.agg #[.slice none 0 0,.slice none 0 0,.slice none 0 0],.slice none 0 0,.agg #[.bool false,.slice none 0 0,.slice none 0 0],.int .i64 0],[]⟩).variablesRefB Tryz.checked.prog=true:=by kernel_rfl
theorem wr_FnExactValOf (os:Os):(((laidWorld os).forCall (fun _ _=>0) ⟨#[],#[.agg #[.slice none 0 0,.slice none 0 0,.slice none 0 0],.slice none 0 0,.agg #[.bool false,.slice none 0 0,.slice none 0 0],.int .i64 0],[]⟩).heap.toList.drop Tryz.checked.prog.globals.size).take ((begin Tryz.checked.prog (fun _ _=>0) default).world.heap.size - Tryz.checked.prog.globals.size)=(begin Tryz.checked.prog (fun _ _=>0) default).world.heap.toList.drop Tryz.checked.prog.globals.size:=by kernel_rfl
theorem wk_FnExactValOf (os:Os):Input.okWideB Tryz.checked.prog ((laidWorld os).forCall (fun _ _=>0) ⟨#[],#[.agg #[.slice none 0 0,.slice none 0 0,.slice none 0 0],.slice none 0 0,.agg #[.bool false,.slice none 0 0,.slice none 0 0],.int .i64 0],[]⟩) 3 ⟨#[],#[.agg #[.slice none 0 0,.slice none 0 0,.slice none 0 0],.slice none 0 0,.agg #[.bool false,.slice none 0 0,.slice none 0 0],.int .i64 0],[]⟩=true:=by kernel_rfl
set_option maxRecDepth 100000 in
theorem lifted_FnExactValOf (os:Os) (started:os.Started) (H:Type) (enc:TypeId × Value→H) (F:Stop.Interp) :
    ReturnsInHanded {} Tryz.checked os 3 .any ((OpenSpec.ofChange Rows.fnExactValOfSpec).preRow enc Tryz.prog Tryz.f3 Rows.fnExactValOfRow.domain false Rows.fnExactValOfRow.laid) (((OpenSpec.ofChange Rows.fnExactValOfSpec).at F).post enc Tryz.prog Tryz.f3 false true false false):=by
  refine returnsInHanded_of_row (C:=Tryz.checked) (s:=OpenSpec.ofChange Rows.fnExactValOfSpec) own started (by kernel_rfl) Tryz.func3
    (witness_row_atRef (enc:=enc) (C:=Tryz.checked) false (laidWorld os) #[.agg #[.slice none 0 0,.slice none 0 0,.slice none 0 0],.slice none 0 0,.agg #[.bool false,.slice none 0 0,.slice none 0 0],.int .i64 0] rfl (wv_FnExactValOf os) (wr_FnExactValOf os) (wk_FnExactValOf os) (witness_FnExactValOf os enc)) ?_
  intro W base args ds gs before hval hW _ _ _ hL _ _
  exact contract_FnExactValOf H enc W base args ds gs before hval hW hL
theorem fnm_FnExactValOf:Tryz.pinned.checked.prog.funcNamed "loop.example/g00719/laws.FnExactValOf" = some 3:=by kernel_rfl
theorem k0_FnExactValOf:Tryz.pinned.checked.prog.unfollowed 3=Rows.fnExactValOfRow.unfollowed:=by kernel_rfl
theorem k1_FnExactValOf:Tryz.pinned.checked.prog.recurses 3=Rows.fnExactValOfRow.recurses:=by kernel_rfl
theorem k2_FnExactValOf:Tryz.pinned.checked.prog.varsNamed 3=Rows.fnExactValOfRow.named:=by kernel_rfl
theorem k3_FnExactValOf:Tryz.pinned.checked.prog.liftsFinal=Rows.fnExactValOfRow.lifted:=by kernel_rfl
theorem k4_FnExactValOf:Tryz.pinned.checked.prog.inPlace 3=Rows.fnExactValOfRow.inPlace:=by kernel_rfl
theorem k5_FnExactValOf:Tryz.pinned.checked.prog.make=some Rows.fnExactValOfRow.make:=by kernel_rfl
theorem k6_FnExactValOf:Tryz.pinned.checked.prog.stopsHeard=true:=by kernel_rfl
theorem k7_FnExactValOf:Tryz.pinned.checked.prog.mayEnter=true:=by kernel_rfl
theorem k8_FnExactValOf:laidOutB Tryz.pinned.checked.prog=true:=by kernel_rfl
theorem k9_FnExactValOf:mapsRowed Tryz.pinned.checked.prog=true:=by kernel_rfl
theorem k10_FnExactValOf:Tryz.pinned.checked.prog.stops=[]:=by kernel_rfl
theorem k11_FnExactValOf:Tryz.pinned.checked.prog.stopKnobs=[]:=by kernel_rfl
theorem k12_FnExactValOf:Tryz.pinned.checked.prog.plainKeys=Rows.fnExactValOfRow.plainKeys:=by kernel_rfl
theorem closed_FnExactValOf:joinedFacts Tryz.pinned.checked.prog 3 Tryz.f3 (OpenSpec.ofChange Rows.fnExactValOfSpec).bare Rows.fnExactValOfRow=true:=by
  unfold joinedFacts
  rw [k0_FnExactValOf,k1_FnExactValOf,k2_FnExactValOf,k3_FnExactValOf,k4_FnExactValOf,k5_FnExactValOf,k6_FnExactValOf,k7_FnExactValOf,k8_FnExactValOf,k9_FnExactValOf,k10_FnExactValOf,k11_FnExactValOf,k12_FnExactValOf]
  kernel_rfl
theorem said_FnExactValOf:Rows.FnExactValOfSaid :=
  OpenClaim.holds_of_cond 3 Tryz.f3 rfl rfl rfl rfl rfl rfl rfl ⟨rfl,rfl,rfl,rfl,rfl⟩ rfl rfl rfl rfl rfl fnm_FnExactValOf Tryz.func3 closed_FnExactValOf
    (of_decide_eq_true (by kernel_rfl)) (by unfold Func.isWrapper; first | (rw [if_pos (by decide +kernel)]; kernel_rfl) | (rw [if_neg (by decide +kernel)]; exact ⟨rfl,rfl⟩))
    (fun os started H enc _ F=>by rw [OpenClaim.pre_eq_preRow]; exact lifted_FnExactValOf os started H enc F)
theorem looks_FnExactValOf:false=Tryz.pinned.checked.prog.looks []:=by kernel_rfl
theorem plain_FnExactValOf (f:FuncId) (fn:Func) (hf:Tryz.pinned.checked.prog.funcNamed "loop.example/g00719/laws.FnExactValOf" = some f) (hfn:Tryz.pinned.checked.prog.funcs[f]?=some fn) :
    false=Tryz.pinned.checked.prog.looks []∧∀ (j:Nat) t,fn.params[j]?=some t→Tryz.pinned.checked.prog.wantsStandIn t=false:=by
  obtain rfl:f=3:=Option.some.inj (fnm_FnExactValOf.symm.trans hf) |>.symm
  obtain rfl:fn=Tryz.f3:=(Option.some.inj (Tryz.func3.symm.trans hfn)).symm
  refine ⟨looks_FnExactValOf,fun j t ht=>?_⟩
  have hall:(Tryz.f3.params.toList.all fun t=>Tryz.prog.wantsStandIn t == false)=true:=by kernel_rfl
  have:=List.all_eq_true.1 hall t (by simpa using Array.mem_of_getElem? ht)
  have h9:Tryz.prog.wantsStandIn t=false:=by simpa using this
  exact h9
theorem gb_FnExactValOf:false=Rows.fnExactValOfRow.goesBy Tryz.pinned.checked.prog:=by kernel_rfl
theorem wf_FnExactValOf:Rows.fnExactValOfRow.wfByText (OpenSpec.ofChange Rows.fnExactValOfSpec)=true:=by kernel_rfl
/-- The card. -/
theorem card_FnExactValOf:Rows.FnExactValOfCardSaid :=
  Claim7.holds_tied_plain_at .later [] _ _ _ _ said_FnExactValOf (fun _ h=>by cases h) wf_FnExactValOf (fun _ h=>by cases h) fnExactValOf_row_tie rfl ⟨rfl,rfl⟩ (by kernel_rfl) rfl plain_FnExactValOf gb_FnExactValOf
#print axioms card_FnExactValOf
end Go.Proofs.YthkdghnejfmhfaaGreatDoor

/- The statement Rows.FnPartsOrderCardSaid of the law FnPartsOrder, proved for every input that the row speaks of; no condition beyond the row's own. -/
import Derived.Test.YtieoiccmlhjioaaGreatDoorCards
import Derived.Test.YtieoiccmlhjioaaGreatDoorTie
import Derived.Test.YtieoiccmlhjioaaGreatDoorF5
import Derived.WalkKit
import Derived.ProofKit
import Derived.OpenShut
import Derived.Deep.DeepHandedRow
import Derived.Deep.DeepWitnessRowRef
import Derived.Lib.LaidTab
set_option linter.all false
set_option linter.unnecessarySimpa false
set_option linter.unusedSectionVars false
set_option linter.unusedSimpArgs false
set_option linter.unusedVariables false
namespace Go.Proofs.YtieoiccmlhjioaaGreatDoor
open Go Go.Ev Go.ChangeShapes Go.WideShapes Go.ChangeAt Go.RowKit
theorem own:ownKnob Tryz.prog.godebug=none:=by kernel_rfl
theorem laidOut:laidOutB Tryz.prog=true:=by kernel_rfl
theorem gTab:Tryz.prog.globalNamed "strings.asciiSpace" = some 0:=by kernel_rfl
theorem gTabType:(Tryz.prog.globals[0]?).map (·.type)=some 225:=by kernel_rfl
theorem cellsA:Tryz.prog.cellsOf 225=256:=by kernel_rfl
theorem cells5:Tryz.prog.cellsOf 5=1:=by kernel_rfl
theorem asciiData:(Rows.laid_strings_asciiSpace:DataW Unit)=Lib.tabData .u8 Lib.asciiSpaceTab:=by kernel_rfl
/-- What the rows' list gives. -/
theorem laid_of {W:World} (h:laidMet Tryz.prog [("unicode.White_Space",Rows.laid_unicode_White_Space),("strings.asciiSpace",Rows.laid_strings_asciiSpace)] W):Laid W fun b=>b < W.heap.size:=by
  rw [asciiData] at h
  obtain ⟨ps,⟨_,_,_,_,_,_,_,_,_,_,hrest,_⟩,_⟩:=h
  obtain ⟨g',t',cs,fuel,p,q,hg',ht',hvar,hd,_,_⟩:=hrest
  obtain rfl:=Option.some.inj (gTab.symm.trans hg')
  obtain rfl:=Option.some.inj (gTabType.symm.trans ht')
  have htab:Lib.TabIs Tryz.prog W "strings.asciiSpace" .u8 Lib.asciiSpaceTab:=by
    unfold Lib.TabIs
    rw [hvar,← Lib.cells_of_tab Tryz.underlying225 Tryz.underlying5 cells5 cellsA hd]
  have hc:∀ c:Nat,c < 256→W.cell? ⟨0,c,none⟩=some (.int .u8 (if Lib.isSp (UInt8.ofNat c) then 1 else 0)):=fun c hc=>by
    rw [htab.cell gTab c (by rw [Lib.asciiSpaceTab_length]; exact hc),Lib.asciiSpaceTab_at c hc]
  intro p hp
  obtain rfl:=List.mem_singleton.1 hp
  refine ⟨World.block_lt_of_cell? W _ (hc 0 (by decide)),fun i c hi=>?_⟩
  simp only [List.getElem?_map,Option.map_eq_some_iff] at hi
  obtain ⟨j,hj,rfl⟩:=hi
  obtain ⟨hlt,he⟩:=List.getElem?_eq_some_iff.1 hj
  simp only [List.length_range,List.getElem_range] at hlt he
  subst he
  exact ⟨_,hc i hlt,.v _ rfl⟩

/-- The witness: the settled world with two blocks more (the table's rows and its struct), the two variables holding what their initialisers lay. -/
noncomputable def laidWorld (os:Os):World :=
  let N:=(World.settled Tryz.prog os).heap.size
  let w0:=World.holding Tryz.prog os ⟨#[.cells #[.int .u16 9,.int .u16 13,.int .u16 1,.int .u16 32,.int .u16 133,.int .u16 101,.int .u16 160,.int .u16 5760,.int .u16 5600,.int .u16 8192,.int .u16 8202,.int .u16 1,.int .u16 8232,.int .u16 8233,.int .u16 1,.int .u16 8239,.int .u16 8287,.int .u16 48,.int .u16 12288,.int .u16 12288,.int .u16 1] 244,.cells #[.slice (some ⟨N,0,none⟩) 7 7,.slice none 0 0,.int .i64 2] 241],#[],[]⟩
  let put (h:Array Obj) (g:Nat) (cs:Array Value):Array Obj:=h.modify g fun
    | .cells _ t frozen=>.cells cs t frozen
    | o=>o
  { w0 with heap:=put (put w0.heap 0 (Lib.asciiSpaceTab.map fun z=>Value.int .u8 z).toArray) 1 #[.pointer (some ⟨N+1,0,none⟩)] }
theorem laid_met (os:Os) (args:Array Value):laidMet Tryz.prog [("unicode.White_Space",Rows.laid_unicode_White_Space),("strings.asciiSpace",Rows.laid_strings_asciiSpace)] ((laidWorld os).forCall (fun _ _=>0) ⟨#[],args,[]⟩).memory :=
  laidMet_of_run' 8 (by kernel_rfl) (by kernel_rfl)
abbrev Good5 (x:Int):Prop:=(Lit.int .u8 x).wf=true
theorem r5:TyR Tryz.prog 5 (fun x:Int=>[.v (.int .u8 x)]) 1 Good5:=TyR.int Tryz.underlying5 (by kernel_rfl)
abbrev Good47 (x:List Int):Prop:=x.length≤maxLen∧∀ y∈x,Good5 y
theorem r47:TyR Tryz.prog 47 (fun l:List Int=>[.sl false 5 1 (List.map u8c l)]) 1 Good47:=TyR.slice Tryz.underlying47 (by kernel_rfl) r5
set_option maxRecDepth 100000 in
/-- What the walk gives, for every argument and every world that holds the listed variables. -/
theorem contract_FnPartsOrder (H:Type) (enc:TypeId × Value→H) (W:World) (base:Nat) (args:Array Value) (ds gs:List (DataW H)) (before:List MemPlace)
    (hval:∀ (j:Nat) t v,Tryz.f6.params[j]?=some t→args[j]?=some v→Value.okWide Tryz.prog W .any base t v)
    (hW:DataW.Whole enc Tryz.prog Tryz.f6.params.toList Rows.fnPartsOrderSpec.vars false W args.toList ds gs before) (hL:laidMetH Tryz.prog Rows.fnPartsOrderRow.laid W) :
    Calls Tryz.prog 6 args W fun e W'=>∃ v,e=.returned v∧Rows.fnPartsOrderSpec.post enc Tryz.prog Tryz.f6 false true false false W args v W':=by
  have hW':=hW
  obtain ⟨p,q,hA0,hV,rfl,hfz,hnd⟩:=hW
  have hA:DataW.TrodAll enc Tryz.prog W 0 (fun _=>true) true Tryz.f6.params.toList args.toList ds p:=hA0
  rw [Tryz.params6] at hA hval
  obtain ⟨v0,vs0,d0,ds0,p0,q0,hargs,rfl,rfl,h0,tr0⟩:=trodAll_cons hA
  obtain ⟨rfl,rfl,rfl⟩:=trodAll_nil tr0
  obtain rfl:args=#[v0]:=by cases args; simp_all
  obtain ⟨rfl,rfl⟩:=trodVars_none hV
  obtain ⟨x0,g0,k0,e0,c0⟩:=r47.arg1 (one_sl Tryz.underlying47 (hval 0 47 v0 rfl rfl)) h0
  obtain ⟨G0,E0,C0⟩:=args_cons (p:=(false,1)) (sh:=[]) (vs:=[]) (ds:=[]) (g:=g0) e0 c0 rfl (by simp) rfl (by simp)
  have q0:∀ x∈x0,0≤x∧x≤255:=bytes_good k0.2
  have hcall:=(c_FnPartsOrder x0 q0).law (laid_of hL) (args:=#[v0]) E0 (by simpa only [List.append_assoc,List.append_nil] using C0)
  refine hcall.mono fun e W' ⟨he,hb⟩=>?_
  subst he
  have hread:(Tryz.f6.params.toList.all fun t=>Tryz.prog.readableRec t&&decide (t < Tryz.prog.types.size))=true:=by kernel_rfl
  exact ⟨_,rfl,post_law laidOut hW' rfl rfl rfl rfl hb (fun t ht=>by simpa using List.all_eq_true.1 hread t ht) rfl Tryz.underlying4⟩
theorem witness_FnPartsOrder (os:Os) {H:Type} (enc:TypeId × Value→H):(OpenSpec.ofChange Rows.fnPartsOrderSpec).preRow enc Tryz.prog Tryz.f6 Rows.fnPartsOrderRow.domain false Rows.fnPartsOrderRow.laid ((laidWorld os).forCall (fun _ _=>0) ⟨#[],#[.slice none 0 0],[]⟩).memory #[.slice none 0 0]:=by
  have hw:(DataW.whole enc Tryz.prog ((laidWorld os).forCall (fun _ _=>0) ⟨#[],#[.slice none 0 0],[]⟩).memory Tryz.f6.params.toList Rows.fnPartsOrderSpec.vars false #[.slice none 0 0].toList 8).map (fun x=>(x.1,x.2.1)) =
      some ([.nil],[]):=by kernel_rfl
  obtain ⟨⟨y1,y2,y3⟩,hx,hx1⟩:=Option.map_eq_some_iff.1 hw
  simp only [Prod.mk.injEq] at hx1
  obtain ⟨rfl,rfl⟩:=hx1
  exact OpenSpec.preRow_of_cond 8 hx (by kernel_rfl) (fun k hk=>by cases hk) (by kernel_rfl) (laid_met os _)
theorem wv_FnPartsOrder (os:Os):((laidWorld os).forCall (fun _ _=>0) ⟨#[],#[.slice none 0 0],[]⟩).variablesRefB Tryz.checked.prog=true:=by kernel_rfl
theorem wr_FnPartsOrder (os:Os):(((laidWorld os).forCall (fun _ _=>0) ⟨#[],#[.slice none 0 0],[]⟩).heap.toList.drop Tryz.checked.prog.globals.size).take ((begin Tryz.checked.prog (fun _ _=>0) default).world.heap.size - Tryz.checked.prog.globals.size)=(begin Tryz.checked.prog (fun _ _=>0) default).world.heap.toList.drop Tryz.checked.prog.globals.size:=by kernel_rfl
theorem wk_FnPartsOrder (os:Os):Input.okWideB Tryz.checked.prog ((laidWorld os).forCall (fun _ _=>0) ⟨#[],#[.slice none 0 0],[]⟩) 6 ⟨#[],#[.slice none 0 0],[]⟩=true:=by kernel_rfl
set_option maxRecDepth 100000 in
theorem lifted_FnPartsOrder (os:Os) (started:os.Started) (H:Type) (enc:TypeId × Value→H) (F:Stop.Interp) :
    ReturnsInHanded {} Tryz.checked os 6 .any ((OpenSpec.ofChange Rows.fnPartsOrderSpec).preRow enc Tryz.prog Tryz.f6 Rows.fnPartsOrderRow.domain false Rows.fnPartsOrderRow.laid) (((OpenSpec.ofChange Rows.fnPartsOrderSpec).at F).post enc Tryz.prog Tryz.f6 false true false false):=by
  refine returnsInHanded_of_row (C:=Tryz.checked) (s:=OpenSpec.ofChange Rows.fnPartsOrderSpec) own started (by kernel_rfl) Tryz.func6
    (witness_row_atRef (enc:=enc) (C:=Tryz.checked) false (laidWorld os) #[.slice none 0 0] rfl (wv_FnPartsOrder os) (wr_FnPartsOrder os) (wk_FnPartsOrder os) (witness_FnPartsOrder os enc)) ?_
  intro W base args ds gs before hval hW _ _ _ hL _ _
  exact contract_FnPartsOrder H enc W base args ds gs before hval hW hL
theorem fnm_FnPartsOrder:Tryz.pinned.checked.prog.funcNamed "loop.example/g00719/laws.FnPartsOrder" = some 6:=by kernel_rfl
theorem k0_FnPartsOrder:Tryz.pinned.checked.prog.unfollowed 6=Rows.fnPartsOrderRow.unfollowed:=by kernel_rfl
theorem k1_FnPartsOrder:Tryz.pinned.checked.prog.recurses 6=Rows.fnPartsOrderRow.recurses:=by kernel_rfl
theorem k2_FnPartsOrder:Tryz.pinned.checked.prog.varsNamed 6=Rows.fnPartsOrderRow.named:=by kernel_rfl
theorem k3_FnPartsOrder:Tryz.pinned.checked.prog.liftsFinal=Rows.fnPartsOrderRow.lifted:=by kernel_rfl
theorem k4_FnPartsOrder:Tryz.pinned.checked.prog.inPlace 6=Rows.fnPartsOrderRow.inPlace:=by kernel_rfl
theorem k5_FnPartsOrder:Tryz.pinned.checked.prog.make=some Rows.fnPartsOrderRow.make:=by kernel_rfl
theorem k6_FnPartsOrder:Tryz.pinned.checked.prog.stopsHeard=true:=by kernel_rfl
theorem k7_FnPartsOrder:Tryz.pinned.checked.prog.mayEnter=true:=by kernel_rfl
theorem k8_FnPartsOrder:laidOutB Tryz.pinned.checked.prog=true:=by kernel_rfl
theorem k9_FnPartsOrder:mapsRowed Tryz.pinned.checked.prog=true:=by kernel_rfl
theorem k10_FnPartsOrder:Tryz.pinned.checked.prog.stops=[]:=by kernel_rfl
theorem k11_FnPartsOrder:Tryz.pinned.checked.prog.stopKnobs=[]:=by kernel_rfl
theorem k12_FnPartsOrder:Tryz.pinned.checked.prog.plainKeys=Rows.fnPartsOrderRow.plainKeys:=by kernel_rfl
theorem closed_FnPartsOrder:joinedFacts Tryz.pinned.checked.prog 6 Tryz.f6 (OpenSpec.ofChange Rows.fnPartsOrderSpec).bare Rows.fnPartsOrderRow=true:=by
  unfold joinedFacts
  rw [k0_FnPartsOrder,k1_FnPartsOrder,k2_FnPartsOrder,k3_FnPartsOrder,k4_FnPartsOrder,k5_FnPartsOrder,k6_FnPartsOrder,k7_FnPartsOrder,k8_FnPartsOrder,k9_FnPartsOrder,k10_FnPartsOrder,k11_FnPartsOrder,k12_FnPartsOrder]
  kernel_rfl
theorem said_FnPartsOrder:Rows.FnPartsOrderSaid :=
  OpenClaim.holds_of_cond 6 Tryz.f6 rfl rfl rfl rfl rfl rfl rfl ⟨rfl,rfl,rfl,rfl,rfl⟩ rfl rfl rfl rfl rfl fnm_FnPartsOrder Tryz.func6 closed_FnPartsOrder
    (of_decide_eq_true (by kernel_rfl)) (by unfold Func.isWrapper; first | (rw [if_pos (by decide +kernel)]; kernel_rfl) | (rw [if_neg (by decide +kernel)]; exact ⟨rfl,rfl⟩))
    (fun os started H enc _ F=>by rw [OpenClaim.pre_eq_preRow]; exact lifted_FnPartsOrder os started H enc F)
theorem looks_FnPartsOrder:false=Tryz.pinned.checked.prog.looks []:=by kernel_rfl
theorem plain_FnPartsOrder (f:FuncId) (fn:Func) (hf:Tryz.pinned.checked.prog.funcNamed "loop.example/g00719/laws.FnPartsOrder" = some f) (hfn:Tryz.pinned.checked.prog.funcs[f]?=some fn) :
    false=Tryz.pinned.checked.prog.looks []∧∀ (j:Nat) t,fn.params[j]?=some t→Tryz.pinned.checked.prog.wantsStandIn t=false:=by
  obtain rfl:f=6:=Option.some.inj (fnm_FnPartsOrder.symm.trans hf) |>.symm
  obtain rfl:fn=Tryz.f6:=(Option.some.inj (Tryz.func6.symm.trans hfn)).symm
  refine ⟨looks_FnPartsOrder,fun j t ht=>?_⟩
  have hall:(Tryz.f6.params.toList.all fun t=>Tryz.prog.wantsStandIn t == false)=true:=by kernel_rfl
  have:=List.all_eq_true.1 hall t (by simpa using Array.mem_of_getElem? ht)
  have h9:Tryz.prog.wantsStandIn t=false:=by simpa using this
  exact h9
theorem gb_FnPartsOrder:false=Rows.fnPartsOrderRow.goesBy Tryz.pinned.checked.prog:=by kernel_rfl
theorem wf_FnPartsOrder:Rows.fnPartsOrderRow.wfByText (OpenSpec.ofChange Rows.fnPartsOrderSpec)=true:=by kernel_rfl
/-- The card. -/
theorem card_FnPartsOrder:Rows.FnPartsOrderCardSaid :=
  Claim7.holds_tied_plain_at .later [] _ _ _ _ said_FnPartsOrder (fun _ h=>by cases h) wf_FnPartsOrder (fun _ h=>by cases h) fnPartsOrder_row_tie rfl ⟨rfl,rfl⟩ (by kernel_rfl) rfl plain_FnPartsOrder gb_FnPartsOrder
#print axioms card_FnPartsOrder
end Go.Proofs.YtieoiccmlhjioaaGreatDoor

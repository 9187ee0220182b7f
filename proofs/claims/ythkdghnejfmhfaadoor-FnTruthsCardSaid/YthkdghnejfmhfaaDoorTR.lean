/- The statement Rows.FnTruthsCardSaid of the law FnTruths, proved for every input that the row speaks of; no condition beyond the row's own. -/
import Derived.Test.YthkdghnejfmhfaaDoorCards
import Derived.Test.YthkdghnejfmhfaaDoorTie
import Derived.Test.YthkdghnejfmhfaaDoorF5
import Derived.WalkKit
import Derived.ProofKit
import Derived.OpenShut
import Derived.Deep.DeepHandedRow
import Derived.Deep.DeepWitnessRowRef
import Derived.Lib.LaidTab
set_option linter.all false
set_option linter.unnecessarySimpa false
set_option linter.unusedSectionVars false
set_option linter.unusedSimpArgs false
set_option linter.unusedVariables false
namespace Go.Proofs.YthkdghnejfmhfaaDoor
open Go Go.Ev Go.ChangeShapes Go.WideShapes Go.ChangeAt Go.RowKit
theorem own:ownKnob Tryd.prog.godebug=none:=by kernel_rfl
theorem laidOut:laidOutB Tryd.prog=true:=by kernel_rfl
theorem gTab:Tryd.prog.globalNamed "strings.asciiSpace" = some 0:=by kernel_rfl
theorem gTabType:(Tryd.prog.globals[0]?).map (·.type)=some 120:=by kernel_rfl
theorem cellsA:Tryd.prog.cellsOf 120=256:=by kernel_rfl
theorem cells5:Tryd.prog.cellsOf 5=1:=by kernel_rfl
theorem asciiData:(Rows.laid_strings_asciiSpace:DataW Unit)=Lib.tabData .u8 Lib.asciiSpaceTab:=by kernel_rfl
/-- What the rows' list gives. -/
theorem laid_of {W:World} (h:laidMet Tryd.prog [("unicode.White_Space",Rows.laid_unicode_White_Space),("strings.asciiSpace",Rows.laid_strings_asciiSpace)] W):Laid W fun b=>b < W.heap.size:=by
  rw [asciiData] at h
  obtain ⟨ps,⟨_,_,_,_,_,_,_,_,_,_,hrest,_⟩,_⟩:=h
  obtain ⟨g',t',cs,fuel,p,q,hg',ht',hvar,hd,_,_⟩:=hrest
  obtain rfl:=Option.some.inj (gTab.symm.trans hg')
  obtain rfl:=Option.some.inj (gTabType.symm.trans ht')
  have htab:Lib.TabIs Tryd.prog W "strings.asciiSpace" .u8 Lib.asciiSpaceTab:=by
    unfold Lib.TabIs
    rw [hvar,← Lib.cells_of_tab Tryd.underlying120 Tryd.underlying5 cells5 cellsA hd]
  have hc:∀ c:Nat,c < 256→W.cell? ⟨0,c,none⟩=some (.int .u8 (if Lib.isSp (UInt8.ofNat c) then 1 else 0)):=fun c hc=>by
    rw [htab.cell gTab c (by rw [Lib.asciiSpaceTab_length]; exact hc),Lib.asciiSpaceTab_at c hc]
  intro p hp
  obtain rfl:=List.mem_singleton.1 hp
  refine ⟨World.block_lt_of_cell? W _ (hc 0 (by decide)),fun i c hi=>?_⟩
  simp only [List.getElem?_map,Option.map_eq_some_iff] at hi
  obtain ⟨j,hj,rfl⟩:=hi
  obtain ⟨hlt,he⟩:=List.getElem?_eq_some_iff.1 hj
  simp only [List.length_range,List.getElem_range] at hlt he
  subst he
  exact ⟨_,hc i hlt,.v _ rfl⟩

/-- The witness: the settled world with two blocks more (the table's rows and its struct), the two variables holding what their initialisers lay. -/
noncomputable def laidWorld (os:Os):World :=
  let N:=(World.settled Tryd.prog os).heap.size
  let w0:=World.holding Tryd.prog os ⟨#[.cells #[.int .u16 9,.int .u16 13,.int .u16 1,.int .u16 32,.int .u16 133,.int .u16 101,.int .u16 160,.int .u16 5760,.int .u16 5600,.int .u16 8192,.int .u16 8202,.int .u16 1,.int .u16 8232,.int .u16 8233,.int .u16 1,.int .u16 8239,.int .u16 8287,.int .u16 48,.int .u16 12288,.int .u16 12288,.int .u16 1] 135,.cells #[.slice (some ⟨N,0,none⟩) 7 7,.slice none 0 0,.int .i64 2] 132],#[],[]⟩
  let put (h:Array Obj) (g:Nat) (cs:Array Value):Array Obj:=h.modify g fun
    | .cells _ t frozen=>.cells cs t frozen
    | o=>o
  { w0 with heap:=put (put w0.heap 0 (Lib.asciiSpaceTab.map fun z=>Value.int .u8 z).toArray) 1 #[.pointer (some ⟨N+1,0,none⟩)] }
theorem laid_met (os:Os) (args:Array Value):laidMet Tryd.prog [("unicode.White_Space",Rows.laid_unicode_White_Space),("strings.asciiSpace",Rows.laid_strings_asciiSpace)] ((laidWorld os).forCall (fun _ _=>0) ⟨#[],args,[]⟩).memory :=
  laidMet_of_run' 8 (by kernel_rfl) (by kernel_rfl)
abbrev Good5 (x:Int):Prop:=(Lit.int .u8 x).wf=true
theorem r5:TyR Tryd.prog 5 (fun x:Int=>[.v (.int .u8 x)]) 1 Good5:=TyR.int Tryd.underlying5 (by kernel_rfl)
abbrev Good22 (x:List Int):Prop:=x.length≤maxLen∧∀ y∈x,Good5 y
theorem r22:TyR Tryd.prog 22 (fun l:List Int=>[.sl false 5 1 (List.map u8c l)]) 1 Good22:=TyR.slice Tryd.underlying22 (by kernel_rfl) r5
set_option maxRecDepth 100000 in
/-- What the walk gives, for every argument and every world that holds the listed variables. -/
theorem contract_FnTruths (H:Type) (enc:TypeId × Value→H) (W:World) (base:Nat) (args:Array Value) (ds gs:List (DataW H)) (before:List MemPlace)
    (hval:∀ (j:Nat) t v,Tryd.f4.params[j]?=some t→args[j]?=some v→Value.okWide Tryd.prog W .any base t v)
    (hW:DataW.Whole enc Tryd.prog Tryd.f4.params.toList Rows.fnTruthsSpec.vars false W args.toList ds gs before) (hL:laidMetH Tryd.prog Rows.fnTruthsRow.laid W) :
    Calls Tryd.prog 4 args W fun e W'=>∃ v,e=.returned v∧Rows.fnTruthsSpec.post enc Tryd.prog Tryd.f4 false true false false W args v W':=by
  have hW':=hW
  obtain ⟨p,q,hA0,hV,rfl,hfz,hnd⟩:=hW
  have hA:DataW.TrodAll enc Tryd.prog W 0 (fun _=>true) true Tryd.f4.params.toList args.toList ds p:=hA0
  rw [Tryd.params4] at hA hval
  obtain ⟨v0,vs0,d0,ds0,p0,q0,hargs,rfl,rfl,h0,tr0⟩:=trodAll_cons hA
  obtain ⟨rfl,rfl,rfl⟩:=trodAll_nil tr0
  obtain rfl:args=#[v0]:=by cases args; simp_all
  obtain ⟨rfl,rfl⟩:=trodVars_none hV
  obtain ⟨x0,g0,k0,e0,c0⟩:=r22.arg1 (one_sl Tryd.underlying22 (hval 0 22 v0 rfl rfl)) h0
  obtain ⟨G0,E0,C0⟩:=args_cons (p:=(false,1)) (sh:=[]) (vs:=[]) (ds:=[]) (g:=g0) e0 c0 rfl (by simp) rfl (by simp)
  have q0:∀ x∈x0,0≤x∧x≤255:=bytes_good k0.2
  have hcall:=(c_FnTruths x0 q0).law (laid_of hL) (args:=#[v0]) E0 (by simpa only [List.append_assoc,List.append_nil] using C0)
  refine hcall.mono fun e W' ⟨he,hb⟩=>?_
  subst he
  have hread:(Tryd.f4.params.toList.all fun t=>Tryd.prog.readableRec t&&decide (t < Tryd.prog.types.size))=true:=by kernel_rfl
  exact ⟨_,rfl,post_law laidOut hW' rfl rfl rfl rfl hb (fun t ht=>by simpa using List.all_eq_true.1 hread t ht) rfl Tryd.underlying4⟩
theorem witness_FnTruths (os:Os) {H:Type} (enc:TypeId × Value→H):(OpenSpec.ofChange Rows.fnTruthsSpec).preRow enc Tryd.prog Tryd.f4 Rows.fnTruthsRow.domain false Rows.fnTruthsRow.laid ((laidWorld os).forCall (fun _ _=>0) ⟨#[],#[.slice none 0 0],[]⟩).memory #[.slice none 0 0]:=by
  have hw:(DataW.whole enc Tryd.prog ((laidWorld os).forCall (fun _ _=>0) ⟨#[],#[.slice none 0 0],[]⟩).memory Tryd.f4.params.toList Rows.fnTruthsSpec.vars false #[.slice none 0 0].toList 8).map (fun x=>(x.1,x.2.1)) =
      some ([.nil],[]):=by kernel_rfl
  obtain ⟨⟨y1,y2,y3⟩,hx,hx1⟩:=Option.map_eq_some_iff.1 hw
  simp only [Prod.mk.injEq] at hx1
  obtain ⟨rfl,rfl⟩:=hx1
  exact OpenSpec.preRow_of_cond 8 hx (by kernel_rfl) (fun k hk=>by cases hk) (by kernel_rfl) (laid_met os _)
theorem wv_FnTruths (os:Os):((laidWorld os).forCall (fun _ _=>0) ⟨#[],#[.slice none 0 0],[]⟩).variablesRefB Tryd.checked.prog=true:=by kernel_rfl
theorem wr_FnTruths (os:Os):(((laidWorld os).forCall (fun _ _=>0) ⟨#[],#[.slice none 0 0],[]⟩).heap.toList.drop Tryd.checked.prog.globals.size).take ((begin Tryd.checked.prog (fun _ _=>0) default).world.heap.size - Tryd.checked.prog.globals.size)=(begin Tryd.checked.prog (fun _ _=>0) default).world.heap.toList.drop Tryd.checked.prog.globals.size:=by kernel_rfl
theorem wk_FnTruths (os:Os):Input.okWideB Tryd.checked.prog ((laidWorld os).forCall (fun _ _=>0) ⟨#[],#[.slice none 0 0],[]⟩) 4 ⟨#[],#[.slice none 0 0],[]⟩=true:=by kernel_rfl
set_option maxRecDepth 100000 in
theorem lifted_FnTruths (os:Os) (started:os.Started) (H:Type) (enc:TypeId × Value→H) (F:Stop.Interp) :
    ReturnsInHanded {} Tryd.checked os 4 .any ((OpenSpec.ofChange Rows.fnTruthsSpec).preRow enc Tryd.prog Tryd.f4 Rows.fnTruthsRow.domain false Rows.fnTruthsRow.laid) (((OpenSpec.ofChange Rows.fnTruthsSpec).at F).post enc Tryd.prog Tryd.f4 false true false false):=by
  refine returnsInHanded_of_row (C:=Tryd.checked) (s:=OpenSpec.ofChange Rows.fnTruthsSpec) own started (by kernel_rfl) Tryd.func4
    (witness_row_atRef (enc:=enc) (C:=Tryd.checked) false (laidWorld os) #[.slice none 0 0] rfl (wv_FnTruths os) (wr_FnTruths os) (wk_FnTruths os) (witness_FnTruths os enc)) ?_
  intro W base args ds gs before hval hW _ _ _ hL _ _
  exact contract_FnTruths H enc W base args ds gs before hval hW hL
theorem fnm_FnTruths:Tryd.pinned.checked.prog.funcNamed "loop.example/g00719/laws.FnTruths" = some 4:=by kernel_rfl
theorem k0_FnTruths:Tryd.pinned.checked.prog.unfollowed 4=Rows.fnTruthsRow.unfollowed:=by kernel_rfl
theorem k1_FnTruths:Tryd.pinned.checked.prog.recurses 4=Rows.fnTruthsRow.recurses:=by kernel_rfl
theorem k2_FnTruths:Tryd.pinned.checked.prog.varsNamed 4=Rows.fnTruthsRow.named:=by kernel_rfl
theorem k3_FnTruths:Tryd.pinned.checked.prog.liftsFinal=Rows.fnTruthsRow.lifted:=by kernel_rfl
theorem k4_FnTruths:Tryd.pinned.checked.prog.inPlace 4=Rows.fnTruthsRow.inPlace:=by kernel_rfl
theorem k5_FnTruths:Tryd.pinned.checked.prog.make=some Rows.fnTruthsRow.make:=by kernel_rfl
theorem k6_FnTruths:Tryd.pinned.checked.prog.stopsHeard=true:=by kernel_rfl
theorem k7_FnTruths:Tryd.pinned.checked.prog.mayEnter=true:=by kernel_rfl
theorem k8_FnTruths:laidOutB Tryd.pinned.checked.prog=true:=by kernel_rfl
theorem k9_FnTruths:mapsRowed Tryd.pinned.checked.prog=true:=by kernel_rfl
theorem k10_FnTruths:Tryd.pinned.checked.prog.stops=[]:=by kernel_rfl
theorem k11_FnTruths:Tryd.pinned.checked.prog.stopKnobs=[]:=by kernel_rfl
theorem k12_FnTruths:Tryd.pinned.checked.prog.plainKeys=Rows.fnTruthsRow.plainKeys:=by kernel_rfl
theorem closed_FnTruths:joinedFacts Tryd.pinned.checked.prog 4 Tryd.f4 (OpenSpec.ofChange Rows.fnTruthsSpec).bare Rows.fnTruthsRow=true:=by
  unfold joinedFacts
  rw [k0_FnTruths,k1_FnTruths,k2_FnTruths,k3_FnTruths,k4_FnTruths,k5_FnTruths,k6_FnTruths,k7_FnTruths,k8_FnTruths,k9_FnTruths,k10_FnTruths,k11_FnTruths,k12_FnTruths]
  kernel_rfl
theorem said_FnTruths:Rows.FnTruthsSaid :=
  OpenClaim.holds_of_cond 4 Tryd.f4 rfl rfl rfl rfl rfl rfl rfl ⟨rfl,rfl,rfl,rfl,rfl⟩ rfl rfl rfl rfl rfl fnm_FnTruths Tryd.func4 closed_FnTruths
    (of_decide_eq_true (by kernel_rfl)) (by unfold Func.isWrapper; first | (rw [if_pos (by decide +kernel)]; kernel_rfl) | (rw [if_neg (by decide +kernel)]; exact ⟨rfl,rfl⟩))
    (fun os started H enc _ F=>by rw [OpenClaim.pre_eq_preRow]; exact lifted_FnTruths os started H enc F)
theorem looks_FnTruths:false=Tryd.pinned.checked.prog.looks []:=by kernel_rfl
theorem plain_FnTruths (f:FuncId) (fn:Func) (hf:Tryd.pinned.checked.prog.funcNamed "loop.example/g00719/laws.FnTruths" = some f) (hfn:Tryd.pinned.checked.prog.funcs[f]?=some fn) :
    false=Tryd.pinned.checked.prog.looks []∧∀ (j:Nat) t,fn.params[j]?=some t→Tryd.pinned.checked.prog.wantsStandIn t=false:=by
  obtain rfl:f=4:=Option.some.inj (fnm_FnTruths.symm.trans hf) |>.symm
  obtain rfl:fn=Tryd.f4:=(Option.some.inj (Tryd.func4.symm.trans hfn)).symm
  refine ⟨looks_FnTruths,fun j t ht=>?_⟩
  have hall:(Tryd.f4.params.toList.all fun t=>Tryd.prog.wantsStandIn t == false)=true:=by kernel_rfl
  have:=List.all_eq_true.1 hall t (by simpa using Array.mem_of_getElem? ht)
  have h9:Tryd.prog.wantsStandIn t=false:=by simpa using this
  exact h9
theorem gb_FnTruths:false=Rows.fnTruthsRow.goesBy Tryd.pinned.checked.prog:=by kernel_rfl
theorem wf_FnTruths:Rows.fnTruthsRow.wfByText (OpenSpec.ofChange Rows.fnTruthsSpec)=true:=by kernel_rfl
/-- The card. -/
theorem card_FnTruths:Rows.FnTruthsCardSaid :=
  Claim7.holds_tied_plain_at .later [] _ _ _ _ said_FnTruths (fun _ h=>by cases h) wf_FnTruths (fun _ h=>by cases h) fnTruths_row_tie rfl ⟨rfl,rfl⟩ (by kernel_rfl) rfl plain_FnTruths gb_FnTruths
#print axioms card_FnTruths
end Go.Proofs.YthkdghnejfmhfaaDoor

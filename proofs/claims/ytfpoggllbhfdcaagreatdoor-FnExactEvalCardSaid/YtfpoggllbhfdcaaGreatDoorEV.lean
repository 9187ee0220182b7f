/- The statement Rows.FnExactEvalCardSaid of the law FnExactEval, proved for every input that the row speaks of; no condition beyond the row's own. -/
import Derived.Test.YtfpoggllbhfdcaaGreatDoorCards
import Derived.Test.YtfpoggllbhfdcaaGreatDoorTie
import Derived.Test.YtfpoggllbhfdcaaGreatDoorF4
import Derived.WalkKit
import Derived.ProofKit
import Derived.OpenShut
import Derived.Deep.DeepHandedRow
import Derived.Deep.DeepWitnessRowRef
import Derived.Lib.LaidTab
set_option linter.all false
set_option linter.unnecessarySimpa false
set_option linter.unusedSectionVars false
set_option linter.unusedSimpArgs false
set_option linter.unusedVariables false
namespace Go.Proofs.YtfpoggllbhfdcaaGreatDoor
open Go Go.Ev Go.ChangeShapes Go.WideShapes Go.ChangeAt Go.RowKit
theorem own : ownKnob Tryz.prog.godebug = none := by kernel_rfl
theorem laidOut : laidOutB Tryz.prog = true := by kernel_rfl
theorem gTab : Tryz.prog.globalNamed "strings.asciiSpace" = some 0 := by kernel_rfl
theorem gTabType : (Tryz.prog.globals[0]?).map (·.type) = some 181 := by kernel_rfl
theorem cellsA : Tryz.prog.cellsOf 181 = 256 := by kernel_rfl
theorem cells5 : Tryz.prog.cellsOf 5 = 1 := by kernel_rfl
theorem asciiData : (Rows.laid_strings_asciiSpace : DataW Unit) = Lib.tabData .u8 Lib.asciiSpaceTab := by kernel_rfl
/-- What the rows' list gives. -/
theorem laid_of {W : World} (h : laidMet Tryz.prog [("unicode.White_Space", Rows.laid_unicode_White_Space), ("strings.asciiSpace", Rows.laid_strings_asciiSpace)] W) : Laid W fun b => b < W.heap.size := by
  rw [asciiData] at h
  obtain ⟨ps, ⟨_, _, _, _, _, _, _, _, _, _, hrest, _⟩, _⟩ := h
  obtain ⟨g', t', cs, fuel, p, q, hg', ht', hvar, hd, _, _⟩ := hrest
  obtain rfl := Option.some.inj (gTab.symm.trans hg')
  obtain rfl := Option.some.inj (gTabType.symm.trans ht')
  have htab : Lib.TabIs Tryz.prog W "strings.asciiSpace" .u8 Lib.asciiSpaceTab := by
    unfold Lib.TabIs
    rw [hvar, ← Lib.cells_of_tab Tryz.underlying181 Tryz.underlying5 cells5 cellsA hd]
  have hc : ∀ c : Nat, c < 256 → W.cell? ⟨0, c, none⟩ = some (.int .u8 (if Lib.isSp (UInt8.ofNat c) then 1 else 0)) := fun c hc => by
    rw [htab.cell gTab c (by rw [Lib.asciiSpaceTab_length]; exact hc), Lib.asciiSpaceTab_at c hc]
  intro p hp
  obtain rfl := List.mem_singleton.1 hp
  refine ⟨World.block_lt_of_cell? W _ (hc 0 (by decide)), fun i c hi => ?_⟩
  simp only [List.getElem?_map, Option.map_eq_some_iff] at hi
  obtain ⟨j, hj, rfl⟩ := hi
  obtain ⟨hlt, he⟩ := List.getElem?_eq_some_iff.1 hj
  simp only [List.length_range, List.getElem_range] at hlt he
  subst he
  exact ⟨_, hc i hlt, .v _ rfl⟩

/-- The witness: the settled world with two blocks more (the table's rows and its struct), the two variables holding what their initialisers lay. -/
noncomputable def laidWorld (os : Os) : World :=
  let N := (World.settled Tryz.prog os).heap.size
  let w0 := World.holding Tryz.prog os ⟨#[.cells #[.int .u16 9, .int .u16 13, .int .u16 1, .int .u16 32, .int .u16 133, .int .u16 101, .int .u16 160, .int .u16 5760, .int .u16 5600, .int .u16 8192, .int .u16 8202, .int .u16 1, .int .u16 8232, .int .u16 8233, .int .u16 1, .int .u16 8239, .int .u16 8287, .int .u16 48, .int .u16 12288, .int .u16 12288, .int .u16 1] 197, .cells #[.slice (some ⟨N, 0, none⟩) 7 7, .slice none 0 0, .int .i64 2] 194], #[], []⟩
  let put (h : Array Obj) (g : Nat) (cs : Array Value) : Array Obj := h.modify g fun
    | .cells _ t frozen => .cells cs t frozen
    | o => o
  { w0 with heap := put (put w0.heap 0 (Lib.asciiSpaceTab.map fun z => Value.int .u8 z).toArray) 1 #[.pointer (some ⟨N + 1, 0, none⟩)] }
theorem laid_met (os : Os) (args : Array Value) : laidMet Tryz.prog [("unicode.White_Space", Rows.laid_unicode_White_Space), ("strings.asciiSpace", Rows.laid_strings_asciiSpace)] ((laidWorld os).forCall (fun _ _ => 0) ⟨#[], args, []⟩).memory :=
  laidMet_of_run' 8 (by kernel_rfl) (by kernel_rfl)
abbrev Good9 (x : ByteArray) : Prop := x.size ≤ maxLen
theorem r9 : TyR Tryz.prog 9 (fun x : ByteArray => [.v (.string x)]) 1 Good9 := TyR.str Tryz.underlying9 (by kernel_rfl)
abbrev Good22 (x : List ByteArray) : Prop := x.length ≤ maxLen ∧ ∀ y ∈ x, Good9 y
theorem r22 : TyR Tryz.prog 22 (fun l : List ByteArray => [.sl false 9 1 (List.map strc l)]) 1 Good22 := TyR.slice Tryz.underlying22 (by kernel_rfl) r9
abbrev Good2 (x : Int) : Prop := (Lit.int .i64 x).wf = true
theorem r2 : TyR Tryz.prog 2 (fun x : Int => [.v (.int .i64 x)]) 1 Good2 := TyR.int Tryz.underlying2 (by kernel_rfl)
abbrev Good102 (x : Arr) : Prop := Good9 x.name ∧ Good2 x.size
theorem r102 : TyR Tryz.prog 102 Arr.c 2 Good102 := TyR.st2 Arr.mk Tryz.underlying102 (by kernel_rfl) r9 r2 rfl rfl (fun _ _ => rfl) (fun _ => rfl) (fun _ _ h0 h1 => ⟨h0, h1⟩)
abbrev Good23 (x : List Arr) : Prop := x.length ≤ maxLen ∧ ∀ y ∈ x, Good102 y
theorem r23 : TyR Tryz.prog 23 (fun l : List Arr => [.sl false 102 2 (List.map Arr.c l)]) 1 Good23 := TyR.slice Tryz.underlying23 (by kernel_rfl) r102
abbrev Good25 (x : Decl) : Prop := Good22 x.vars ∧ Good22 x.flags ∧ Good23 x.arrays
theorem r25 : TyR Tryz.prog 25 Decl.c25 3 Good25 := TyR.st3 Decl.mk Tryz.underlying25 (by kernel_rfl) r22 r22 r23 rfl rfl rfl (fun _ _ _ => rfl) (fun _ => rfl) (fun _ _ _ h0 h1 h2 => ⟨h0, h1, h2⟩)
abbrev Good78 (x : Tok) : Prop := Good2 x.op ∧ Good2 x.n
theorem r78 : TyR Tryz.prog 78 Tok.c 2 Good78 := TyR.st2 Tok.mk Tryz.underlying78 (by kernel_rfl) r2 r2 rfl rfl (fun _ _ => rfl) (fun _ => rfl) (fun _ _ h0 h1 => ⟨h0, h1⟩)
abbrev Good26 (x : List Tok) : Prop := x.length ≤ maxLen ∧ ∀ y ∈ x, Good78 y
theorem r26 : TyR Tryz.prog 26 (fun l : List Tok => [.sl false 78 2 (List.map Tok.c l)]) 1 Good26 := TyR.slice Tryz.underlying26 (by kernel_rfl) r78
abbrev Good27 (x : List Int) : Prop := x.length ≤ maxLen ∧ ∀ y ∈ x, Good2 y
theorem r27 : TyR Tryz.prog 27 (fun l : List Int => [.sl false 2 1 (List.map i64c l)]) 1 Good27 := TyR.slice Tryz.underlying27 (by kernel_rfl) r2
abbrev Good4 (x : Bool) : Prop := True
theorem r4 : TyR Tryz.prog 4 (fun x : Bool => [.v (.bool x)]) 1 Good4 := TyR.bool Tryz.underlying4 (by kernel_rfl)
abbrev Good28 (x : List Bool) : Prop := x.length ≤ maxLen ∧ ∀ y ∈ x, Good4 y
theorem r28 : TyR Tryz.prog 28 (fun l : List Bool => [.sl false 4 1 (List.map boolc l)]) 1 Good28 := TyR.slice Tryz.underlying28 (by kernel_rfl) r4
abbrev Good29 (x : List (List Int)) : Prop := x.length ≤ maxLen ∧ ∀ y ∈ x, Good27 y
theorem r29 : TyR Tryz.prog 29 (fun l : List (List Int) => [.sl false 27 1 (List.map slc27 l)]) 1 Good29 := TyR.slice Tryz.underlying29 (by kernel_rfl) r27
abbrev Good31 (x : Store) : Prop := Good27 x.ints ∧ Good28 x.flags ∧ Good29 x.arrs
theorem r31 : TyR Tryz.prog 31 Store.c31 3 Good31 := TyR.st3 Store.mk Tryz.underlying31 (by kernel_rfl) r27 r28 r29 rfl rfl rfl (fun _ _ _ => rfl) (fun _ => rfl) (fun _ _ _ h0 h1 h2 => ⟨h0, h1, h2⟩)
set_option maxRecDepth 100000 in
/-- What the walk gives, for every argument and every world that holds the listed variables. -/
theorem contract_FnExactEval (H : Type) (enc : TypeId × Value → H) (W : World) (base : Nat) (args : Array Value) (ds gs : List (DataW H)) (before : List MemPlace)
    (hval : ∀ (j : Nat) t v, Tryz.f3.params[j]? = some t → args[j]? = some v → Value.okWide Tryz.prog W .any base t v)
    (hW : DataW.Whole enc Tryz.prog Tryz.f3.params.toList Rows.fnExactEvalSpec.vars false W args.toList ds gs before) (hL : laidMetH Tryz.prog Rows.fnExactEvalRow.laid W) :
    Calls Tryz.prog 3 args W fun e W' => ∃ v, e = .returned v ∧ Rows.fnExactEvalSpec.post enc Tryz.prog Tryz.f3 false true false false W args v W' := by
  have hW' := hW
  obtain ⟨p, q, hA0, hV, rfl, hfz, hnd⟩ := hW
  have hA : DataW.TrodAll enc Tryz.prog W 0 (fun _ => true) true Tryz.f3.params.toList args.toList ds p := hA0
  rw [Tryz.params3] at hA hval
  obtain ⟨v0, vs0, d0, ds0, p0, q0, hargs, rfl, rfl, h0, tr0⟩ := trodAll_cons hA
  obtain ⟨v1, vs1, d1, ds1, p1, q1, rfl, rfl, rfl, h1, tr1⟩ := trodAll_cons tr0
  obtain ⟨v2, vs2, d2, ds2, p2, q2, rfl, rfl, rfl, h2, tr2⟩ := trodAll_cons tr1
  obtain ⟨rfl, rfl, rfl⟩ := trodAll_nil tr2
  obtain rfl : args = #[v0, v1, v2] := by cases args; simp_all
  obtain ⟨rfl, rfl⟩ := trodVars_none hV
  obtain ⟨x0, g0, k0, e0, c0⟩ := r25.arg Tryz.underlying25 (hval 0 25 v0 rfl rfl) h0
  obtain ⟨x1, g1, k1, e1, c1⟩ := r26.arg1 (one_sl Tryz.underlying26 (hval 1 26 v1 rfl rfl)) h1
  obtain ⟨x2, g2, k2, e2, c2⟩ := r31.arg Tryz.underlying31 (hval 2 31 v2 rfl rfl) h2
  obtain ⟨G2, E2, C2⟩ := args_cons (p := (true, 3)) (sh := []) (vs := []) (ds := []) (g := g0) e2 c2 rfl (by simp) rfl (by simp)
  obtain ⟨G1, E1, C1⟩ := args_cons (p := (false, 1))  e1 c1 rfl (by simp) E2 C2
  obtain ⟨G0, E0, C0⟩ := args_cons (p := (true, 3))  e0 c0 rfl (by simp) E1 C1
  have q0 : ∀ x ∈ Decl.names x0, x.size ≤ 9223372036854775807 := names_good k0.1.2 k0.2.1.2 k0.2.2.2
  have q1 : ∀ x ∈ x0.vars, 0 ≤ strW x ∧ strW x ≤ 9223372036854775807 := strs_good k0.1.2
  have q2 : ∀ x ∈ x0.flags, 0 ≤ strW x ∧ strW x ≤ 9223372036854775807 := strs_good k0.2.1.2
  have q3 : ∀ x ∈ x0.arrays, 0 ≤ arrW x ∧ arrW x ≤ 9223372036854775807 := arrs_good k0.2.2.2
  have q4 : FitS x2 := ⟨fun x hx => fit_good (k2.1.2 x hx), fun a ha x hx => fit_good ((k2.2.2.2 a ha).2 x hx)⟩
  have hcall := (c_FnExactEval x0 x1 x2 q0 q1 q2 q3 q4).law (laid_of hL) (args := #[v0, v1, v2]) E0 (by simpa only [List.append_assoc, List.append_nil] using C0)
  refine hcall.mono fun e W' ⟨he, hb⟩ => ?_
  subst he
  have hread : (Tryz.f3.params.toList.all fun t => Tryz.prog.readableRec t && decide (t < Tryz.prog.types.size)) = true := by kernel_rfl
  exact ⟨_, rfl, post_law laidOut hW' rfl rfl rfl rfl hb (fun t ht => by simpa using List.all_eq_true.1 hread t ht) rfl Tryz.underlying4⟩
theorem witness_FnExactEval (os : Os) {H : Type} (enc : TypeId × Value → H) : (OpenSpec.ofChange Rows.fnExactEvalSpec).preRow enc Tryz.prog Tryz.f3 Rows.fnExactEvalRow.domain false Rows.fnExactEvalRow.laid ((laidWorld os).forCall (fun _ _ => 0) ⟨#[], #[.agg #[.slice none 0 0, .slice none 0 0, .slice none 0 0], .slice none 0 0, .agg #[.slice none 0 0, .slice none 0 0, .slice none 0 0]], []⟩).memory #[.agg #[.slice none 0 0, .slice none 0 0, .slice none 0 0], .slice none 0 0, .agg #[.slice none 0 0, .slice none 0 0, .slice none 0 0]] := by
  have hw : (DataW.whole enc Tryz.prog ((laidWorld os).forCall (fun _ _ => 0) ⟨#[], #[.agg #[.slice none 0 0, .slice none 0 0, .slice none 0 0], .slice none 0 0, .agg #[.slice none 0 0, .slice none 0 0, .slice none 0 0]], []⟩).memory Tryz.f3.params.toList Rows.fnExactEvalSpec.vars false #[Value.agg #[.slice none 0 0, .slice none 0 0, .slice none 0 0], .slice none 0 0, .agg #[.slice none 0 0, .slice none 0 0, .slice none 0 0]].toList 8).map (fun x => (x.1, x.2.1)) =
      some ([.agg [.nil, .nil, .nil], .nil, .agg [.nil, .nil, .nil]], []) := by kernel_rfl
  obtain ⟨⟨y1, y2, y3⟩, hx, hx1⟩ := Option.map_eq_some_iff.1 hw
  simp only [Prod.mk.injEq] at hx1
  obtain ⟨rfl, rfl⟩ := hx1
  exact OpenSpec.preRow_of_cond 8 hx (by kernel_rfl) (fun k hk => by cases hk) (by kernel_rfl) (laid_met os _)
theorem wv_FnExactEval (os : Os) : ((laidWorld os).forCall (fun _ _ => 0) ⟨#[], #[.agg #[.slice none 0 0, .slice none 0 0, .slice none 0 0], .slice none 0 0, .agg #[.slice none 0 0, .slice none 0 0, .slice none 0 0]], []⟩).variablesRefB Tryz.checked.prog = true := by kernel_rfl
theorem wr_FnExactEval (os : Os) : (((laidWorld os).forCall (fun _ _ => 0) ⟨#[], #[.agg #[.slice none 0 0, .slice none 0 0, .slice none 0 0], .slice none 0 0, .agg #[.slice none 0 0, .slice none 0 0, .slice none 0 0]], []⟩).heap.toList.drop Tryz.checked.prog.globals.size).take ((begin Tryz.checked.prog (fun _ _ => 0) default).world.heap.size - Tryz.checked.prog.globals.size) = (begin Tryz.checked.prog (fun _ _ => 0) default).world.heap.toList.drop Tryz.checked.prog.globals.size := by kernel_rfl
theorem wk_FnExactEval (os : Os) : Input.okWideB Tryz.checked.prog ((laidWorld os).forCall (fun _ _ => 0) ⟨#[], #[.agg #[.slice none 0 0, .slice none 0 0, .slice none 0 0], .slice none 0 0, .agg #[.slice none 0 0, .slice none 0 0, .slice none 0 0]], []⟩) 3 ⟨#[], #[.agg #[.slice none 0 0, .slice none 0 0, .slice none 0 0], .slice none 0 0, .agg #[.slice none 0 0, .slice none 0 0, .slice none 0 0]], []⟩ = true := by kernel_rfl
set_option maxRecDepth 100000 in
theorem lifted_FnExactEval (os : Os) (started : os.Started) (H : Type) (enc : TypeId × Value → H) (F : Stop.Interp) :
    ReturnsInHanded {} Tryz.checked os 3 .any ((OpenSpec.ofChange Rows.fnExactEvalSpec).preRow enc Tryz.prog Tryz.f3 Rows.fnExactEvalRow.domain false Rows.fnExactEvalRow.laid) (((OpenSpec.ofChange Rows.fnExactEvalSpec).at F).post enc Tryz.prog Tryz.f3 false true false false) := by
  refine returnsInHanded_of_row (C := Tryz.checked) (s := OpenSpec.ofChange Rows.fnExactEvalSpec) own started (by kernel_rfl) Tryz.func3
    (witness_row_atRef (enc := enc) (C := Tryz.checked) false (laidWorld os) #[.agg #[.slice none 0 0, .slice none 0 0, .slice none 0 0], .slice none 0 0, .agg #[.slice none 0 0, .slice none 0 0, .slice none 0 0]] rfl (wv_FnExactEval os) (wr_FnExactEval os) (wk_FnExactEval os) (witness_FnExactEval os enc)) ?_
  intro W base args ds gs before hval hW _ _ _ hL _ _
  exact contract_FnExactEval H enc W base args ds gs before hval hW hL
theorem fnm_FnExactEval : Tryz.pinned.checked.prog.funcNamed "loop.example/g00719/laws.FnExactEval" = some 3 := by kernel_rfl
theorem k0_FnExactEval : Tryz.pinned.checked.prog.unfollowed 3 = Rows.fnExactEvalRow.unfollowed := by kernel_rfl
theorem k1_FnExactEval : Tryz.pinned.checked.prog.recurses 3 = Rows.fnExactEvalRow.recurses := by kernel_rfl
theorem k2_FnExactEval : Tryz.pinned.checked.prog.varsNamed 3 = Rows.fnExactEvalRow.named := by kernel_rfl
theorem k3_FnExactEval : Tryz.pinned.checked.prog.liftsFinal = Rows.fnExactEvalRow.lifted := by kernel_rfl
theorem k4_FnExactEval : Tryz.pinned.checked.prog.inPlace 3 = Rows.fnExactEvalRow.inPlace := by kernel_rfl
theorem k5_FnExactEval : Tryz.pinned.checked.prog.make = some Rows.fnExactEvalRow.make := by kernel_rfl
theorem k6_FnExactEval : Tryz.pinned.checked.prog.stopsHeard = true := by kernel_rfl
theorem k7_FnExactEval : Tryz.pinned.checked.prog.mayEnter = true := by kernel_rfl
theorem k8_FnExactEval : laidOutB Tryz.pinned.checked.prog = true := by kernel_rfl
theorem k9_FnExactEval : mapsRowed Tryz.pinned.checked.prog = true := by kernel_rfl
theorem k10_FnExactEval : Tryz.pinned.checked.prog.stops = [] := by kernel_rfl
theorem k11_FnExactEval : Tryz.pinned.checked.prog.stopKnobs = [] := by kernel_rfl
theorem k12_FnExactEval : Tryz.pinned.checked.prog.plainKeys = Rows.fnExactEvalRow.plainKeys := by kernel_rfl
theorem closed_FnExactEval : joinedFacts Tryz.pinned.checked.prog 3 Tryz.f3 (OpenSpec.ofChange Rows.fnExactEvalSpec).bare Rows.fnExactEvalRow = true := by
  unfold joinedFacts
  rw [k0_FnExactEval, k1_FnExactEval, k2_FnExactEval, k3_FnExactEval, k4_FnExactEval, k5_FnExactEval, k6_FnExactEval, k7_FnExactEval, k8_FnExactEval, k9_FnExactEval, k10_FnExactEval, k11_FnExactEval, k12_FnExactEval]
  kernel_rfl
theorem said_FnExactEval : Rows.FnExactEvalSaid :=
  OpenClaim.holds_of_cond 3 Tryz.f3 rfl rfl rfl rfl rfl rfl rfl ⟨rfl, rfl, rfl, rfl, rfl⟩ rfl rfl rfl rfl rfl fnm_FnExactEval Tryz.func3 closed_FnExactEval
    (of_decide_eq_true (by kernel_rfl)) (by unfold Func.isWrapper; first | (rw [if_pos (by decide +kernel)]; kernel_rfl) | (rw [if_neg (by decide +kernel)]; exact ⟨rfl, rfl⟩))
    (fun os started H enc _ F => by rw [OpenClaim.pre_eq_preRow]; exact lifted_FnExactEval os started H enc F)
theorem looks_FnExactEval : false = Tryz.pinned.checked.prog.looks [] := by kernel_rfl
theorem plain_FnExactEval (f : FuncId) (fn : Func) (hf : Tryz.pinned.checked.prog.funcNamed "loop.example/g00719/laws.FnExactEval" = some f) (hfn : Tryz.pinned.checked.prog.funcs[f]? = some fn) :
    false = Tryz.pinned.checked.prog.looks [] ∧ ∀ (j : Nat) t, fn.params[j]? = some t → Tryz.pinned.checked.prog.wantsStandIn t = false := by
  obtain rfl : f = 3 := Option.some.inj (fnm_FnExactEval.symm.trans hf) |>.symm
  obtain rfl : fn = Tryz.f3 := (Option.some.inj (Tryz.func3.symm.trans hfn)).symm
  refine ⟨looks_FnExactEval, fun j t ht => ?_⟩
  have hall : (Tryz.f3.params.toList.all fun t => Tryz.prog.wantsStandIn t == false) = true := by kernel_rfl
  have := List.all_eq_true.1 hall t (by simpa using Array.mem_of_getElem? ht)
  have h9 : Tryz.prog.wantsStandIn t = false := by simpa using this
  exact h9
theorem gb_FnExactEval : false = Rows.fnExactEvalRow.goesBy Tryz.pinned.checked.prog := by kernel_rfl
theorem wf_FnExactEval : Rows.fnExactEvalRow.wfByText (OpenSpec.ofChange Rows.fnExactEvalSpec) = true := by kernel_rfl
/-- The card. -/
theorem card_FnExactEval : Rows.FnExactEvalCardSaid :=
  Claim7.holds_tied_plain_at .later [] _ _ _ _ said_FnExactEval (fun _ h => by cases h) wf_FnExactEval (fun _ h => by cases h) fnExactEval_row_tie rfl ⟨rfl, rfl⟩ (by kernel_rfl) rfl plain_FnExactEval gb_FnExactEval
#print axioms card_FnExactEval
end Go.Proofs.YtfpoggllbhfdcaaGreatDoor

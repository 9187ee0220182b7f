/- The statement Rows.FnExactEnvMeetCardSaid of the law FnExactEnvMeet, proved for every input that the row speaks of; no condition beyond the row's own. -/
import Derived.Test.YtgpcioamhfaodabDoorCards
import Derived.Test.YtgpcioamhfaodabDoorTie
import Derived.Test.YtgpcioamhfaodabDoorF2
import Derived.WalkKit
import Derived.ProofKit
import Derived.OpenShut
import Derived.Deep.DeepHandedRow
import Derived.Deep.DeepWitnessRowRef
import Derived.Lib.LaidTab
set_option linter.all false
set_option linter.unnecessarySimpa false
set_option linter.unusedSectionVars false
set_option linter.unusedSimpArgs false
set_option linter.unusedVariables false
namespace Go.Proofs.YtgpcioamhfaodabDoor
open Go Go.Ev Go.ChangeShapes Go.WideShapes Go.ChangeAt Go.RowKit
theorem own : ownKnob Tryd.prog.godebug = none := by kernel_rfl
theorem laidOut : laidOutB Tryd.prog = true := by kernel_rfl
theorem gTab : Tryd.prog.globalNamed "strings.asciiSpace" = some 0 := by kernel_rfl
theorem gTabType : (Tryd.prog.globals[0]?).map (·.type) = some 158 := by kernel_rfl
theorem cellsA : Tryd.prog.cellsOf 158 = 256 := by kernel_rfl
theorem cells5 : Tryd.prog.cellsOf 5 = 1 := by kernel_rfl
theorem asciiData : (Rows.laid_strings_asciiSpace : DataW Unit) = Lib.tabData .u8 Lib.asciiSpaceTab := by kernel_rfl
/-- What the rows' list gives. -/
theorem laid_of {W : World} (h : laidMet Tryd.prog [("unicode.White_Space", Rows.laid_unicode_White_Space), ("strings.asciiSpace", Rows.laid_strings_asciiSpace)] W) : Laid W fun b => b < W.heap.size := by
  rw [asciiData] at h
  obtain ⟨ps, ⟨_, _, _, _, _, _, _, _, _, _, hrest, _⟩, _⟩ := h
  obtain ⟨g', t', cs, fuel, p, q, hg', ht', hvar, hd, _, _⟩ := hrest
  obtain rfl := Option.some.inj (gTab.symm.trans hg')
  obtain rfl := Option.some.inj (gTabType.symm.trans ht')
  have htab : Lib.TabIs Tryd.prog W "strings.asciiSpace" .u8 Lib.asciiSpaceTab := by
    unfold Lib.TabIs
    rw [hvar, ← Lib.cells_of_tab Tryd.underlying158 Tryd.underlying5 cells5 cellsA hd]
  have hc : ∀ c : Nat, c < 256 → W.cell? ⟨0, c, none⟩ = some (.int .u8 (if Lib.isSp (UInt8.ofNat c) then 1 else 0)) := fun c hc => by
    rw [htab.cell gTab c (by rw [Lib.asciiSpaceTab_length]; exact hc), Lib.asciiSpaceTab_at c hc]
  intro p hp
  obtain rfl := List.mem_singleton.1 hp
  refine ⟨World.block_lt_of_cell? W _ (hc 0 (by decide)), fun i c hi => ?_⟩
  simp only [List.getElem?_map, Option.map_eq_some_iff] at hi
  obtain ⟨j, hj, rfl⟩ := hi
  obtain ⟨hlt, he⟩ := List.getElem?_eq_some_iff.1 hj
  simp only [List.length_range, List.getElem_range] at hlt he
  subst he
  exact ⟨_, hc i hlt, .v _ rfl⟩

/-- The witness: the settled world with two blocks more (the table's rows and its struct), the two variables holding what their initialisers lay. -/
noncomputable def laidWorld (os : Os) : World :=
  let N := (World.settled Tryd.prog os).heap.size
  let w0 := World.holding Tryd.prog os ⟨#[.cells #[.int .u16 9, .int .u16 13, .int .u16 1, .int .u16 32, .int .u16 133, .int .u16 101, .int .u16 160, .int .u16 5760, .int .u16 5600, .int .u16 8192, .int .u16 8202, .int .u16 1, .int .u16 8232, .int .u16 8233, .int .u16 1, .int .u16 8239, .int .u16 8287, .int .u16 48, .int .u16 12288, .int .u16 12288, .int .u16 1] 174, .cells #[.slice (some ⟨N, 0, none⟩) 7 7, .slice none 0 0, .int .i64 2] 171], #[], []⟩
  let put (h : Array Obj) (g : Nat) (cs : Array Value) : Array Obj := h.modify g fun
    | .cells _ t frozen => .cells cs t frozen
    | o => o
  { w0 with heap := put (put w0.heap 0 (Lib.asciiSpaceTab.map fun z => Value.int .u8 z).toArray) 1 #[.pointer (some ⟨N + 1, 0, none⟩)] }
theorem laid_met (os : Os) (args : Array Value) : laidMet Tryd.prog [("unicode.White_Space", Rows.laid_unicode_White_Space), ("strings.asciiSpace", Rows.laid_strings_asciiSpace)] ((laidWorld os).forCall (fun _ _ => 0) ⟨#[], args, []⟩).memory :=
  laidMet_of_run' 8 (by kernel_rfl) (by kernel_rfl)
abbrev Good9 (x : ByteArray) : Prop := x.size ≤ maxLen
theorem r9 : TyR Tryd.prog 9 (fun x : ByteArray => [.v (.string x)]) 1 Good9 := TyR.str Tryd.underlying9 (by kernel_rfl)
abbrev Good24 (x : List ByteArray) : Prop := x.length ≤ maxLen ∧ ∀ y ∈ x, Good9 y
theorem r24 : TyR Tryd.prog 24 (fun l : List ByteArray => [.sl false 9 1 (List.map strc l)]) 1 Good24 := TyR.slice Tryd.underlying24 (by kernel_rfl) r9
abbrev Good2 (x : Int) : Prop := (Lit.int .i64 x).wf = true
theorem r2 : TyR Tryd.prog 2 (fun x : Int => [.v (.int .i64 x)]) 1 Good2 := TyR.int Tryd.underlying2 (by kernel_rfl)
abbrev Good126 (x : Arr) : Prop := Good9 x.name ∧ Good2 x.size
theorem r126 : TyR Tryd.prog 126 Arr.c 2 Good126 := TyR.st2 Arr.mk Tryd.underlying126 (by kernel_rfl) r9 r2 rfl rfl (fun _ _ => rfl) (fun _ => rfl) (fun _ _ h0 h1 => ⟨h0, h1⟩)
abbrev Good50 (x : List Arr) : Prop := x.length ≤ maxLen ∧ ∀ y ∈ x, Good126 y
theorem r50 : TyR Tryd.prog 50 (fun l : List Arr => [.sl false 126 2 (List.map Arr.c l)]) 1 Good50 := TyR.slice Tryd.underlying50 (by kernel_rfl) r126
abbrev Good52 (x : Decl) : Prop := Good24 x.vars ∧ Good24 x.flags ∧ Good50 x.arrays
theorem r52 : TyR Tryd.prog 52 Decl.c52 3 Good52 := TyR.st3 Decl.mk Tryd.underlying52 (by kernel_rfl) r24 r24 r50 rfl rfl rfl (fun _ _ _ => rfl) (fun _ => rfl) (fun _ _ _ h0 h1 h2 => ⟨h0, h1, h2⟩)
abbrev Good4 (x : Bool) : Prop := True
theorem r4 : TyR Tryd.prog 4 (fun x : Bool => [.v (.bool x)]) 1 Good4 := TyR.bool Tryd.underlying4 (by kernel_rfl)
abbrev Good129 (x : Iv) : Prop := Good2 x.lo ∧ Good2 x.hi
theorem r129 : TyR Tryd.prog 129 Iv.c 2 Good129 := TyR.st2 Iv.mk Tryd.underlying129 (by kernel_rfl) r2 r2 rfl rfl (fun _ _ => rfl) (fun _ => rfl) (fun _ _ h0 h1 => ⟨h0, h1⟩)
abbrev Good53 (x : List Iv) : Prop := x.length ≤ maxLen ∧ ∀ y ∈ x, Good129 y
theorem r53 : TyR Tryd.prog 53 (fun l : List Iv => [.sl false 129 2 (List.map Iv.c l)]) 1 Good53 := TyR.slice Tryd.underlying53 (by kernel_rfl) r129
abbrev Good55 (x : Env) : Prop := Good4 x.live ∧ Good53 x.ints ∧ Good53 x.arrs
theorem r55 : TyR Tryd.prog 55 Env.c55 3 Good55 := TyR.st3 Env.mk Tryd.underlying55 (by kernel_rfl) r4 r53 r53 rfl rfl rfl (fun _ _ _ => rfl) (fun _ => rfl) (fun _ _ _ h0 h1 h2 => ⟨h0, h1, h2⟩)
set_option maxRecDepth 100000 in
/-- What the walk gives, for every argument and every world that holds the listed variables. -/
theorem contract_FnExactEnvMeet (H : Type) (enc : TypeId × Value → H) (W : World) (base : Nat) (args : Array Value) (ds gs : List (DataW H)) (before : List MemPlace)
    (hval : ∀ (j : Nat) t v, Tryd.f6.params[j]? = some t → args[j]? = some v → Value.okWide Tryd.prog W .any base t v)
    (hW : DataW.Whole enc Tryd.prog Tryd.f6.params.toList Rows.fnExactEnvMeetSpec.vars false W args.toList ds gs before) (hL : laidMetH Tryd.prog Rows.fnExactEnvMeetRow.laid W) :
    Calls Tryd.prog 6 args W fun e W' => ∃ v, e = .returned v ∧ Rows.fnExactEnvMeetSpec.post enc Tryd.prog Tryd.f6 false true false false W args v W' := by
  have hW' := hW
  obtain ⟨p, q, hA0, hV, rfl, hfz, hnd⟩ := hW
  have hA : DataW.TrodAll enc Tryd.prog W 0 (fun _ => true) true Tryd.f6.params.toList args.toList ds p := hA0
  rw [Tryd.params6] at hA hval
  obtain ⟨v0, vs0, d0, ds0, p0, q0, hargs, rfl, rfl, h0, tr0⟩ := trodAll_cons hA
  obtain ⟨v1, vs1, d1, ds1, p1, q1, rfl, rfl, rfl, h1, tr1⟩ := trodAll_cons tr0
  obtain ⟨v2, vs2, d2, ds2, p2, q2, rfl, rfl, rfl, h2, tr2⟩ := trodAll_cons tr1
  obtain ⟨rfl, rfl, rfl⟩ := trodAll_nil tr2
  obtain rfl : args = #[v0, v1, v2] := by cases args; simp_all
  obtain ⟨rfl, rfl⟩ := trodVars_none hV
  obtain ⟨x0, g0, k0, e0, c0⟩ := r52.arg Tryd.underlying52 (hval 0 52 v0 rfl rfl) h0
  obtain ⟨x1, g1, k1, e1, c1⟩ := r55.arg Tryd.underlying55 (hval 1 55 v1 rfl rfl) h1
  obtain ⟨x2, g2, k2, e2, c2⟩ := r55.arg Tryd.underlying55 (hval 2 55 v2 rfl rfl) h2
  obtain ⟨G2, E2, C2⟩ := args_cons (p := (true, 3)) (sh := []) (vs := []) (ds := []) (g := g0) e2 c2 rfl (by simp) rfl (by simp)
  obtain ⟨G1, E1, C1⟩ := args_cons (p := (true, 3))  e1 c1 rfl (by simp) E2 C2
  obtain ⟨G0, E0, C0⟩ := args_cons (p := (true, 3))  e0 c0 rfl (by simp) E1 C1
  have q0 : ∀ x ∈ Decl.names x0, x.size ≤ 9223372036854775807 := names_good k0.1.2 k0.2.1.2 k0.2.2.2
  have q1 : ∀ x ∈ x0.vars, 0 ≤ strW x ∧ strW x ≤ 9223372036854775807 := strs_good k0.1.2
  have q2 : ∀ x ∈ x0.flags, 0 ≤ strW x ∧ strW x ≤ 9223372036854775807 := strs_good k0.2.1.2
  have q3 : ∀ x ∈ x0.arrays, 0 ≤ arrW x ∧ arrW x ≤ 9223372036854775807 := arrs_good k0.2.2.2
  have hcall := (c_FnExactEnvMeet x0 x1 x2 q0 q1 q2 q3).law (laid_of hL) (args := #[v0, v1, v2]) E0 (by simpa only [List.append_assoc, List.append_nil] using C0)
  refine hcall.mono fun e W' ⟨he, hb⟩ => ?_
  subst he
  have hread : (Tryd.f6.params.toList.all fun t => Tryd.prog.readableRec t && decide (t < Tryd.prog.types.size)) = true := by kernel_rfl
  exact ⟨_, rfl, post_law laidOut hW' rfl rfl rfl rfl hb (fun t ht => by simpa using List.all_eq_true.1 hread t ht) rfl Tryd.underlying4⟩
theorem witness_FnExactEnvMeet (os : Os) {H : Type} (enc : TypeId × Value → H) : (OpenSpec.ofChange Rows.fnExactEnvMeetSpec).preRow enc Tryd.prog Tryd.f6 Rows.fnExactEnvMeetRow.domain false Rows.fnExactEnvMeetRow.laid ((laidWorld os).forCall (fun _ _ => 0) ⟨#[], #[.agg #[.slice none 0 0, .slice none 0 0, .slice none 0 0], .agg #[.bool false, .slice none 0 0, .slice none 0 0], .agg #[.bool false, .slice none 0 0, .slice none 0 0]], []⟩).memory #[.agg #[.slice none 0 0, .slice none 0 0, .slice none 0 0], .agg #[.bool false, .slice none 0 0, .slice none 0 0], .agg #[.bool false, .slice none 0 0, .slice none 0 0]] := by
  have hw : (DataW.whole enc Tryd.prog ((laidWorld os).forCall (fun _ _ => 0) ⟨#[], #[.agg #[.slice none 0 0, .slice none 0 0, .slice none 0 0], .agg #[.bool false, .slice none 0 0, .slice none 0 0], .agg #[.bool false, .slice none 0 0, .slice none 0 0]], []⟩).memory Tryd.f6.params.toList Rows.fnExactEnvMeetSpec.vars false #[Value.agg #[.slice none 0 0, .slice none 0 0, .slice none 0 0], .agg #[.bool false, .slice none 0 0, .slice none 0 0], .agg #[.bool false, .slice none 0 0, .slice none 0 0]].toList 8).map (fun x => (x.1, x.2.1)) =
      some ([.agg [.nil, .nil, .nil], .agg [.lit (.bool false), .nil, .nil], .agg [.lit (.bool false), .nil, .nil]], []) := by kernel_rfl
  obtain ⟨⟨y1, y2, y3⟩, hx, hx1⟩ := Option.map_eq_some_iff.1 hw
  simp only [Prod.mk.injEq] at hx1
  obtain ⟨rfl, rfl⟩ := hx1
  exact OpenSpec.preRow_of_cond 8 hx (by kernel_rfl) (fun k hk => by cases hk) (by kernel_rfl) (laid_met os _)
theorem wv_FnExactEnvMeet (os : Os) : ((laidWorld os).forCall (fun _ _ => 0) ⟨#[], #[.agg #[.slice none 0 0, .slice none 0 0, .slice none 0 0], .agg #[.bool false, .slice none 0 0, .slice none 0 0], .agg #[.bool false, .slice none 0 0, .slice none 0 0]], []⟩).variablesRefB Tryd.checked.prog = true := by kernel_rfl
theorem wr_FnExactEnvMeet (os : Os) : (((laidWorld os).forCall (fun _ _ => 0) ⟨#[], #[.agg #[.slice none 0 0, .slice none 0 0, .slice none 0 0], .agg #[.bool false, .slice none 0 0, .slice none 0 0], .agg #[.bool false, .slice none 0 0, .slice none 0 0]], []⟩).heap.toList.drop Tryd.checked.prog.globals.size).take ((begin Tryd.checked.prog (fun _ _ => 0) default).world.heap.size - Tryd.checked.prog.globals.size) = (begin Tryd.checked.prog (fun _ _ => 0) default).world.heap.toList.drop Tryd.checked.prog.globals.size := by kernel_rfl
theorem wk_FnExactEnvMeet (os : Os) : Input.okWideB Tryd.checked.prog ((laidWorld os).forCall (fun _ _ => 0) ⟨#[], #[.agg #[.slice none 0 0, .slice none 0 0, .slice none 0 0], .agg #[.bool false, .slice none 0 0, .slice none 0 0], .agg #[.bool false, .slice none 0 0, .slice none 0 0]], []⟩) 6 ⟨#[], #[.agg #[.slice none 0 0, .slice none 0 0, .slice none 0 0], .agg #[.bool false, .slice none 0 0, .slice none 0 0], .agg #[.bool false, .slice none 0 0, .slice none 0 0]], []⟩ = true := by kernel_rfl
set_option maxRecDepth 100000 in
theorem lifted_FnExactEnvMeet (os : Os) (started : os.Started) (H : Type) (enc : TypeId × Value → H) (F : Stop.Interp) :
    ReturnsInHanded {} Tryd.checked os 6 .any ((OpenSpec.ofChange Rows.fnExactEnvMeetSpec).preRow enc Tryd.prog Tryd.f6 Rows.fnExactEnvMeetRow.domain false Rows.fnExactEnvMeetRow.laid) (((OpenSpec.ofChange Rows.fnExactEnvMeetSpec).at F).post enc Tryd.prog Tryd.f6 false true false false) := by
  refine returnsInHanded_of_row (C := Tryd.checked) (s := OpenSpec.ofChange Rows.fnExactEnvMeetSpec) own started (by kernel_rfl) Tryd.func6
    (witness_row_atRef (enc := enc) (C := Tryd.checked) false (laidWorld os) #[.agg #[.slice none 0 0, .slice none 0 0, .slice none 0 0], .agg #[.bool false, .slice none 0 0, .slice none 0 0], .agg #[.bool false, .slice none 0 0, .slice none 0 0]] rfl (wv_FnExactEnvMeet os) (wr_FnExactEnvMeet os) (wk_FnExactEnvMeet os) (witness_FnExactEnvMeet os enc)) ?_
  intro W base args ds gs before hval hW _ _ _ hL _ _
  exact contract_FnExactEnvMeet H enc W base args ds gs before hval hW hL
theorem fnm_FnExactEnvMeet : Tryd.pinned.checked.prog.funcNamed "loop.example/g00719/laws.FnExactEnvMeet" = some 6 := by kernel_rfl
theorem k0_FnExactEnvMeet : Tryd.pinned.checked.prog.unfollowed 6 = Rows.fnExactEnvMeetRow.unfollowed := by kernel_rfl
theorem k1_FnExactEnvMeet : Tryd.pinned.checked.prog.recurses 6 = Rows.fnExactEnvMeetRow.recurses := by kernel_rfl
theorem k2_FnExactEnvMeet : Tryd.pinned.checked.prog.varsNamed 6 = Rows.fnExactEnvMeetRow.named := by kernel_rfl
theorem k3_FnExactEnvMeet : Tryd.pinned.checked.prog.liftsFinal = Rows.fnExactEnvMeetRow.lifted := by kernel_rfl
theorem k4_FnExactEnvMeet : Tryd.pinned.checked.prog.inPlace 6 = Rows.fnExactEnvMeetRow.inPlace := by kernel_rfl
theorem k5_FnExactEnvMeet : Tryd.pinned.checked.prog.make = some Rows.fnExactEnvMeetRow.make := by kernel_rfl
theorem k6_FnExactEnvMeet : Tryd.pinned.checked.prog.stopsHeard = true := by kernel_rfl
theorem k7_FnExactEnvMeet : Tryd.pinned.checked.prog.mayEnter = true := by kernel_rfl
theorem k8_FnExactEnvMeet : laidOutB Tryd.pinned.checked.prog = true := by kernel_rfl
theorem k9_FnExactEnvMeet : mapsRowed Tryd.pinned.checked.prog = true := by kernel_rfl
theorem k10_FnExactEnvMeet : Tryd.pinned.checked.prog.stops = [] := by kernel_rfl
theorem k11_FnExactEnvMeet : Tryd.pinned.checked.prog.stopKnobs = [] := by kernel_rfl
theorem k12_FnExactEnvMeet : Tryd.pinned.checked.prog.plainKeys = Rows.fnExactEnvMeetRow.plainKeys := by kernel_rfl
theorem closed_FnExactEnvMeet : joinedFacts Tryd.pinned.checked.prog 6 Tryd.f6 (OpenSpec.ofChange Rows.fnExactEnvMeetSpec).bare Rows.fnExactEnvMeetRow = true := by
  unfold joinedFacts
  rw [k0_FnExactEnvMeet, k1_FnExactEnvMeet, k2_FnExactEnvMeet, k3_FnExactEnvMeet, k4_FnExactEnvMeet, k5_FnExactEnvMeet, k6_FnExactEnvMeet, k7_FnExactEnvMeet, k8_FnExactEnvMeet, k9_FnExactEnvMeet, k10_FnExactEnvMeet, k11_FnExactEnvMeet, k12_FnExactEnvMeet]
  kernel_rfl
theorem said_FnExactEnvMeet : Rows.FnExactEnvMeetSaid :=
  OpenClaim.holds_of_cond 6 Tryd.f6 rfl rfl rfl rfl rfl rfl rfl ⟨rfl, rfl, rfl, rfl, rfl⟩ rfl rfl rfl rfl rfl fnm_FnExactEnvMeet Tryd.func6 closed_FnExactEnvMeet
    (of_decide_eq_true (by kernel_rfl)) (by unfold Func.isWrapper; first | (rw [if_pos (by decide +kernel)]; kernel_rfl) | (rw [if_neg (by decide +kernel)]; exact ⟨rfl, rfl⟩))
    (fun os started H enc _ F => by rw [OpenClaim.pre_eq_preRow]; exact lifted_FnExactEnvMeet os started H enc F)
theorem looks_FnExactEnvMeet : false = Tryd.pinned.checked.prog.looks [] := by kernel_rfl
theorem plain_FnExactEnvMeet (f : FuncId) (fn : Func) (hf : Tryd.pinned.checked.prog.funcNamed "loop.example/g00719/laws.FnExactEnvMeet" = some f) (hfn : Tryd.pinned.checked.prog.funcs[f]? = some fn) :
    false = Tryd.pinned.checked.prog.looks [] ∧ ∀ (j : Nat) t, fn.params[j]? = some t → Tryd.pinned.checked.prog.wantsStandIn t = false := by
  obtain rfl : f = 6 := Option.some.inj (fnm_FnExactEnvMeet.symm.trans hf) |>.symm
  obtain rfl : fn = Tryd.f6 := (Option.some.inj (Tryd.func6.symm.trans hfn)).symm
  refine ⟨looks_FnExactEnvMeet, fun j t ht => ?_⟩
  have hall : (Tryd.f6.params.toList.all fun t => Tryd.prog.wantsStandIn t == false) = true := by kernel_rfl
  have := List.all_eq_true.1 hall t (by simpa using Array.mem_of_getElem? ht)
  have h9 : Tryd.prog.wantsStandIn t = false := by simpa using this
  exact h9
theorem gb_FnExactEnvMeet : false = Rows.fnExactEnvMeetRow.goesBy Tryd.pinned.checked.prog := by kernel_rfl
theorem wf_FnExactEnvMeet : Rows.fnExactEnvMeetRow.wfByText (OpenSpec.ofChange Rows.fnExactEnvMeetSpec) = true := by kernel_rfl
/-- The card. -/
theorem card_FnExactEnvMeet : Rows.FnExactEnvMeetCardSaid :=
  Claim7.holds_tied_plain_at .later [] _ _ _ _ said_FnExactEnvMeet (fun _ h => by cases h) wf_FnExactEnvMeet (fun _ h => by cases h) fnExactEnvMeet_row_tie rfl ⟨rfl, rfl⟩ (by kernel_rfl) rfl plain_FnExactEnvMeet gb_FnExactEnvMeet
#print axioms card_FnExactEnvMeet
end Go.Proofs.YtgpcioamhfaodabDoor

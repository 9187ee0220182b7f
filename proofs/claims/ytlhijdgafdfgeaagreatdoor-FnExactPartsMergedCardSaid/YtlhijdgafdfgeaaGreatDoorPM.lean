/- The statement Rows.FnExactPartsMergedCardSaid of the law FnExactPartsMerged, proved for every input that the row speaks of; no condition beyond the row's own. -/
import Derived.Test.YtlhijdgafdfgeaaGreatDoorCards
import Derived.Test.YtlhijdgafdfgeaaGreatDoorTie
import Derived.Test.YtlhijdgafdfgeaaGreatDoorF4
import Derived.WalkKit
import Derived.ProofKit
import Derived.OpenShut
import Derived.Deep.DeepHandedRow
import Derived.Deep.DeepWitnessRowRef
import Derived.Lib.LaidTab
set_option linter.all false
set_option linter.unnecessarySimpa false
set_option linter.unusedSectionVars false
set_option linter.unusedSimpArgs false
set_option linter.unusedVariables false
namespace Go.Proofs.YtlhijdgafdfgeaaGreatDoor
open Go Go.Ev Go.ChangeShapes Go.WideShapes Go.ChangeAt Go.RowKit
theorem own : ownKnob Tryz.prog.godebug = none := by kernel_rfl
theorem laidOut : laidOutB Tryz.prog = true := by kernel_rfl
theorem gTab : Tryz.prog.globalNamed "strings.asciiSpace" = some 0 := by kernel_rfl
theorem gTabType : (Tryz.prog.globals[0]?).map (·.type) = some 189 := by kernel_rfl
theorem cellsA : Tryz.prog.cellsOf 189 = 256 := by kernel_rfl
theorem cells5 : Tryz.prog.cellsOf 5 = 1 := by kernel_rfl
theorem asciiData : (Rows.laid_strings_asciiSpace : DataW Unit) = Lib.tabData .u8 Lib.asciiSpaceTab := by kernel_rfl
/-- What the rows' list gives. -/
theorem laid_of {W : World} (h : laidMet Tryz.prog [("unicode.White_Space", Rows.laid_unicode_White_Space), ("strings.asciiSpace", Rows.laid_strings_asciiSpace)] W) : Laid W fun b => b < W.heap.size := by
  rw [asciiData] at h
  obtain ⟨ps, ⟨_, _, _, _, _, _, _, _, _, _, hrest, _⟩, _⟩ := h
  obtain ⟨g', t', cs, fuel, p, q, hg', ht', hvar, hd, _, _⟩ := hrest
  obtain rfl := Option.some.inj (gTab.symm.trans hg')
  obtain rfl := Option.some.inj (gTabType.symm.trans ht')
  have htab : Lib.TabIs Tryz.prog W "strings.asciiSpace" .u8 Lib.asciiSpaceTab := by
    unfold Lib.TabIs
    rw [hvar, ← Lib.cells_of_tab Tryz.underlying189 Tryz.underlying5 cells5 cellsA hd]
  have hc : ∀ c : Nat, c < 256 → W.cell? ⟨0, c, none⟩ = some (.int .u8 (if Lib.isSp (UInt8.ofNat c) then 1 else 0)) := fun c hc => by
    rw [htab.cell gTab c (by rw [Lib.asciiSpaceTab_length]; exact hc), Lib.asciiSpaceTab_at c hc]
  intro p hp
  obtain rfl := List.mem_singleton.1 hp
  refine ⟨World.block_lt_of_cell? W _ (hc 0 (by decide)), fun i c hi => ?_⟩
  simp only [List.getElem?_map, Option.map_eq_some_iff] at hi
  obtain ⟨j, hj, rfl⟩ := hi
  obtain ⟨hlt, he⟩ := List.getElem?_eq_some_iff.1 hj
  simp only [List.length_range, List.getElem_range] at hlt he
  subst he
  exact ⟨_, hc i hlt, .v _ rfl⟩

/-- The witness: the settled world with two blocks more (the table's rows and its struct), the two variables holding what their initialisers lay. -/
noncomputable def laidWorld (os : Os) : World :=
  let N := (World.settled Tryz.prog os).heap.size
  let w0 := World.holding Tryz.prog os ⟨#[.cells #[.int .u16 9, .int .u16 13, .int .u16 1, .int .u16 32, .int .u16 133, .int .u16 101, .int .u16 160, .int .u16 5760, .int .u16 5600, .int .u16 8192, .int .u16 8202, .int .u16 1, .int .u16 8232, .int .u16 8233, .int .u16 1, .int .u16 8239, .int .u16 8287, .int .u16 48, .int .u16 12288, .int .u16 12288, .int .u16 1] 211, .cells #[.slice (some ⟨N, 0, none⟩) 7 7, .slice none 0 0, .int .i64 2] 208], #[], []⟩
  let put (h : Array Obj) (g : Nat) (cs : Array Value) : Array Obj := h.modify g fun
    | .cells _ t frozen => .cells cs t frozen
    | o => o
  { w0 with heap := put (put w0.heap 0 (Lib.asciiSpaceTab.map fun z => Value.int .u8 z).toArray) 1 #[.pointer (some ⟨N + 1, 0, none⟩)] }
theorem laid_met (os : Os) (args : Array Value) : laidMet Tryz.prog [("unicode.White_Space", Rows.laid_unicode_White_Space), ("strings.asciiSpace", Rows.laid_strings_asciiSpace)] ((laidWorld os).forCall (fun _ _ => 0) ⟨#[], args, []⟩).memory :=
  laidMet_of_run' 8 (by kernel_rfl) (by kernel_rfl)
abbrev Good9 (x : ByteArray) : Prop := x.size ≤ maxLen
theorem r9 : TyR Tryz.prog 9 (fun x : ByteArray => [.v (.string x)]) 1 Good9 := TyR.str Tryz.underlying9 (by kernel_rfl)
abbrev Good22 (x : List ByteArray) : Prop := x.length ≤ maxLen ∧ ∀ y ∈ x, Good9 y
theorem r22 : TyR Tryz.prog 22 (fun l : List ByteArray => [.sl false 9 1 (List.map strc l)]) 1 Good22 := TyR.slice Tryz.underlying22 (by kernel_rfl) r9
abbrev Good2 (x : Int) : Prop := (Lit.int .i64 x).wf = true
theorem r2 : TyR Tryz.prog 2 (fun x : Int => [.v (.int .i64 x)]) 1 Good2 := TyR.int Tryz.underlying2 (by kernel_rfl)
abbrev Good84 (x : Arr) : Prop := Good9 x.name ∧ Good2 x.size
theorem r84 : TyR Tryz.prog 84 Arr.c 2 Good84 := TyR.st2 Arr.mk Tryz.underlying84 (by kernel_rfl) r9 r2 rfl rfl (fun _ _ => rfl) (fun _ => rfl) (fun _ _ h0 h1 => ⟨h0, h1⟩)
abbrev Good23 (x : List Arr) : Prop := x.length ≤ maxLen ∧ ∀ y ∈ x, Good84 y
theorem r23 : TyR Tryz.prog 23 (fun l : List Arr => [.sl false 84 2 (List.map Arr.c l)]) 1 Good23 := TyR.slice Tryz.underlying23 (by kernel_rfl) r84
abbrev Good25 (x : Decl) : Prop := Good22 x.vars ∧ Good22 x.flags ∧ Good23 x.arrays
theorem r25 : TyR Tryz.prog 25 Decl.c25 3 Good25 := TyR.st3 Decl.mk Tryz.underlying25 (by kernel_rfl) r22 r22 r23 rfl rfl rfl (fun _ _ _ => rfl) (fun _ => rfl) (fun _ _ _ h0 h1 h2 => ⟨h0, h1, h2⟩)
abbrev Good124 (x : Entry) : Prop := Good2 x.line ∧ Good2 x.pick
theorem r124 : TyR Tryz.prog 124 Entry.c 2 Good124 := TyR.st2 Entry.mk Tryz.underlying124 (by kernel_rfl) r2 r2 rfl rfl (fun _ _ => rfl) (fun _ => rfl) (fun _ _ h0 h1 => ⟨h0, h1⟩)
abbrev Good55 (x : List Entry) : Prop := x.length ≤ maxLen ∧ ∀ y ∈ x, Good124 y
theorem r55 : TyR Tryz.prog 55 (fun l : List Entry => [.sl false 124 2 (List.map Entry.c l)]) 1 Good55 := TyR.slice Tryz.underlying55 (by kernel_rfl) r124
abbrev Good4 (x : Bool) : Prop := True
theorem r4 : TyR Tryz.prog 4 (fun x : Bool => [.v (.bool x)]) 1 Good4 := TyR.bool Tryz.underlying4 (by kernel_rfl)
abbrev Good177 (x : Iv) : Prop := Good2 x.lo ∧ Good2 x.hi
theorem r177 : TyR Tryz.prog 177 Iv.c 2 Good177 := TyR.st2 Iv.mk Tryz.underlying177 (by kernel_rfl) r2 r2 rfl rfl (fun _ _ => rfl) (fun _ => rfl) (fun _ _ h0 h1 => ⟨h0, h1⟩)
abbrev Good116 (x : List Iv) : Prop := x.length ≤ maxLen ∧ ∀ y ∈ x, Good177 y
theorem r116 : TyR Tryz.prog 116 (fun l : List Iv => [.sl false 177 2 (List.map Iv.c l)]) 1 Good116 := TyR.slice Tryz.underlying116 (by kernel_rfl) r177
abbrev Good118 (x : Env) : Prop := Good4 x.live ∧ Good116 x.ints ∧ Good116 x.arrs
theorem r118 : TyR Tryz.prog 118 Env.c118 3 Good118 := TyR.st3 Env.mk Tryz.underlying118 (by kernel_rfl) r4 r116 r116 rfl rfl rfl (fun _ _ _ => rfl) (fun _ => rfl) (fun _ _ _ h0 h1 h2 => ⟨h0, h1, h2⟩)
abbrev Good56 (x : List Env) : Prop := x.length ≤ maxLen ∧ ∀ y ∈ x, Good118 y
theorem r56 : TyR Tryz.prog 56 (fun l : List Env => [.sl false 118 3 (List.map Env.c118 l)]) 1 Good56 := TyR.slice Tryz.underlying56 (by kernel_rfl) r118
abbrev Good58 (x : Part) : Prop := Good55 x.token ∧ Good56 x.table
theorem r58 : TyR Tryz.prog 58 Part.c58 2 Good58 := TyR.st2 Part.mk Tryz.underlying58 (by kernel_rfl) r55 r56 rfl rfl (fun _ _ => rfl) (fun _ => rfl) (fun _ _ h0 h1 => ⟨h0, h1⟩)
abbrev Good26 (x : List Part) : Prop := x.length ≤ maxLen ∧ ∀ y ∈ x, Good58 y
theorem r26 : TyR Tryz.prog 26 (fun l : List Part => [.sl false 58 2 (List.map Part.c58 l)]) 1 Good26 := TyR.slice Tryz.underlying26 (by kernel_rfl) r58
set_option maxRecDepth 100000 in
/-- What the walk gives, for every argument and every world that holds the listed variables. -/
theorem contract_FnExactPartsMerged (H : Type) (enc : TypeId × Value → H) (W : World) (base : Nat) (args : Array Value) (ds gs : List (DataW H)) (before : List MemPlace)
    (hval : ∀ (j : Nat) t v, Tryz.f3.params[j]? = some t → args[j]? = some v → Value.okWide Tryz.prog W .any base t v)
    (hW : DataW.Whole enc Tryz.prog Tryz.f3.params.toList Rows.fnExactPartsMergedSpec.vars false W args.toList ds gs before) (hL : laidMetH Tryz.prog Rows.fnExactPartsMergedRow.laid W) :
    Calls Tryz.prog 3 args W fun e W' => ∃ v, e = .returned v ∧ Rows.fnExactPartsMergedSpec.post enc Tryz.prog Tryz.f3 false true false false W args v W' := by
  have hW' := hW
  obtain ⟨p, q, hA0, hV, rfl, hfz, hnd⟩ := hW
  have hA : DataW.TrodAll enc Tryz.prog W 0 (fun _ => true) true Tryz.f3.params.toList args.toList ds p := hA0
  rw [Tryz.params3] at hA hval
  obtain ⟨v0, vs0, d0, ds0, p0, q0, hargs, rfl, rfl, h0, tr0⟩ := trodAll_cons hA
  obtain ⟨v1, vs1, d1, ds1, p1, q1, rfl, rfl, rfl, h1, tr1⟩ := trodAll_cons tr0
  obtain ⟨rfl, rfl, rfl⟩ := trodAll_nil tr1
  obtain rfl : args = #[v0, v1] := by cases args; simp_all
  obtain ⟨rfl, rfl⟩ := trodVars_none hV
  obtain ⟨x0, g0, k0, e0, c0⟩ := r25.arg Tryz.underlying25 (hval 0 25 v0 rfl rfl) h0
  obtain ⟨x1, g1, k1, e1, c1⟩ := r26.arg1 (one_sl Tryz.underlying26 (hval 1 26 v1 rfl rfl)) h1
  obtain ⟨G1, E1, C1⟩ := args_cons (p := (false, 1)) (sh := []) (vs := []) (ds := []) (g := g0) e1 c1 rfl (by simp) rfl (by simp)
  obtain ⟨G0, E0, C0⟩ := args_cons (p := (true, 3))  e0 c0 rfl (by simp) E1 C1
  have q0 : ∀ x ∈ Decl.names x0, x.size ≤ 9223372036854775807 := names_good k0.1.2 k0.2.1.2 k0.2.2.2
  have q1 : ∀ x ∈ x0.vars, 0 ≤ strW x ∧ strW x ≤ 9223372036854775807 := strs_good k0.1.2
  have q2 : ∀ x ∈ x0.flags, 0 ≤ strW x ∧ strW x ≤ 9223372036854775807 := strs_good k0.2.1.2
  have q3 : ∀ x ∈ x0.arrays, 0 ≤ arrW x ∧ arrW x ≤ 9223372036854775807 := arrs_good k0.2.2.2
  have hcall := (c_FnExactPartsMerged x0 x1 q0 q1 q2 q3).law (laid_of hL) (args := #[v0, v1]) E0 (by simpa only [List.append_assoc, List.append_nil] using C0)
  refine hcall.mono fun e W' ⟨he, hb⟩ => ?_
  subst he
  have hread : (Tryz.f3.params.toList.all fun t => Tryz.prog.readableRec t && decide (t < Tryz.prog.types.size)) = true := by kernel_rfl
  exact ⟨_, rfl, post_law laidOut hW' rfl rfl rfl rfl hb (fun t ht => by simpa using List.all_eq_true.1 hread t ht) rfl Tryz.underlying4⟩
theorem witness_FnExactPartsMerged (os : Os) {H : Type} (enc : TypeId × Value → H) : (OpenSpec.ofChange Rows.fnExactPartsMergedSpec).preRow enc Tryz.prog Tryz.f3 Rows.fnExactPartsMergedRow.domain false Rows.fnExactPartsMergedRow.laid ((laidWorld os).forCall (fun _ _ => 0) ⟨#[], #[.agg #[.slice none 0 0, .slice none 0 0, .slice none 0 0], .slice none 0 0], []⟩).memory #[.agg #[.slice none 0 0, .slice none 0 0, .slice none 0 0], .slice none 0 0] := by
  have hw : (DataW.whole enc Tryz.prog ((laidWorld os).forCall (fun _ _ => 0) ⟨#[], #[.agg #[.slice none 0 0, .slice none 0 0, .slice none 0 0], .slice none 0 0], []⟩).memory Tryz.f3.params.toList Rows.fnExactPartsMergedSpec.vars false #[Value.agg #[.slice none 0 0, .slice none 0 0, .slice none 0 0], .slice none 0 0].toList 8).map (fun x => (x.1, x.2.1)) =
      some ([.agg [.nil, .nil, .nil], .nil], []) := by kernel_rfl
  obtain ⟨⟨y1, y2, y3⟩, hx, hx1⟩ := Option.map_eq_some_iff.1 hw
  simp only [Prod.mk.injEq] at hx1
  obtain ⟨rfl, rfl⟩ := hx1
  exact OpenSpec.preRow_of_cond 8 hx (by kernel_rfl) (fun k hk => by cases hk) (by kernel_rfl) (laid_met os _)
theorem wv_FnExactPartsMerged (os : Os) : ((laidWorld os).forCall (fun _ _ => 0) ⟨#[], #[.agg #[.slice none 0 0, .slice none 0 0, .slice none 0 0], .slice none 0 0], []⟩).variablesRefB Tryz.checked.prog = true := by kernel_rfl
theorem wr_FnExactPartsMerged (os : Os) : (((laidWorld os).forCall (fun _ _ => 0) ⟨#[], #[.agg #[.slice none 0 0, .slice none 0 0, .slice none 0 0], .slice none 0 0], []⟩).heap.toList.drop Tryz.checked.prog.globals.size).take ((begin Tryz.checked.prog (fun _ _ => 0) default).world.heap.size - Tryz.checked.prog.globals.size) = (begin Tryz.checked.prog (fun _ _ => 0) default).world.heap.toList.drop Tryz.checked.prog.globals.size := by kernel_rfl
theorem wk_FnExactPartsMerged (os : Os) : Input.okWideB Tryz.checked.prog ((laidWorld os).forCall (fun _ _ => 0) ⟨#[], #[.agg #[.slice none 0 0, .slice none 0 0, .slice none 0 0], .slice none 0 0], []⟩) 3 ⟨#[], #[.agg #[.slice none 0 0, .slice none 0 0, .slice none 0 0], .slice none 0 0], []⟩ = true := by kernel_rfl
set_option maxRecDepth 100000 in
theorem lifted_FnExactPartsMerged (os : Os) (started : os.Started) (H : Type) (enc : TypeId × Value → H) (F : Stop.Interp) :
    ReturnsInHanded {} Tryz.checked os 3 .any ((OpenSpec.ofChange Rows.fnExactPartsMergedSpec).preRow enc Tryz.prog Tryz.f3 Rows.fnExactPartsMergedRow.domain false Rows.fnExactPartsMergedRow.laid) (((OpenSpec.ofChange Rows.fnExactPartsMergedSpec).at F).post enc Tryz.prog Tryz.f3 false true false false) := by
  refine returnsInHanded_of_row (C := Tryz.checked) (s := OpenSpec.ofChange Rows.fnExactPartsMergedSpec) own started (by kernel_rfl) Tryz.func3
    (witness_row_atRef (enc := enc) (C := Tryz.checked) false (laidWorld os) #[.agg #[.slice none 0 0, .slice none 0 0, .slice none 0 0], .slice none 0 0] rfl (wv_FnExactPartsMerged os) (wr_FnExactPartsMerged os) (wk_FnExactPartsMerged os) (witness_FnExactPartsMerged os enc)) ?_
  intro W base args ds gs before hval hW _ _ _ hL _ _
  exact contract_FnExactPartsMerged H enc W base args ds gs before hval hW hL
theorem fnm_FnExactPartsMerged : Tryz.pinned.checked.prog.funcNamed "loop.example/g00719/laws.FnExactPartsMerged" = some 3 := by kernel_rfl
theorem k0_FnExactPartsMerged : Tryz.pinned.checked.prog.unfollowed 3 = Rows.fnExactPartsMergedRow.unfollowed := by kernel_rfl
theorem k1_FnExactPartsMerged : Tryz.pinned.checked.prog.recurses 3 = Rows.fnExactPartsMergedRow.recurses := by kernel_rfl
theorem k2_FnExactPartsMerged : Tryz.pinned.checked.prog.varsNamed 3 = Rows.fnExactPartsMergedRow.named := by kernel_rfl
theorem k3_FnExactPartsMerged : Tryz.pinned.checked.prog.liftsFinal = Rows.fnExactPartsMergedRow.lifted := by kernel_rfl
theorem k4_FnExactPartsMerged : Tryz.pinned.checked.prog.inPlace 3 = Rows.fnExactPartsMergedRow.inPlace := by kernel_rfl
theorem k5_FnExactPartsMerged : Tryz.pinned.checked.prog.make = some Rows.fnExactPartsMergedRow.make := by kernel_rfl
theorem k6_FnExactPartsMerged : Tryz.pinned.checked.prog.stopsHeard = true := by kernel_rfl
theorem k7_FnExactPartsMerged : Tryz.pinned.checked.prog.mayEnter = true := by kernel_rfl
theorem k8_FnExactPartsMerged : laidOutB Tryz.pinned.checked.prog = true := by kernel_rfl
theorem k9_FnExactPartsMerged : mapsRowed Tryz.pinned.checked.prog = true := by kernel_rfl
theorem k10_FnExactPartsMerged : Tryz.pinned.checked.prog.stops = [] := by kernel_rfl
theorem k11_FnExactPartsMerged : Tryz.pinned.checked.prog.stopKnobs = [] := by kernel_rfl
theorem k12_FnExactPartsMerged : Tryz.pinned.checked.prog.plainKeys = Rows.fnExactPartsMergedRow.plainKeys := by kernel_rfl
theorem closed_FnExactPartsMerged : joinedFacts Tryz.pinned.checked.prog 3 Tryz.f3 (OpenSpec.ofChange Rows.fnExactPartsMergedSpec).bare Rows.fnExactPartsMergedRow = true := by
  unfold joinedFacts
  rw [k0_FnExactPartsMerged, k1_FnExactPartsMerged, k2_FnExactPartsMerged, k3_FnExactPartsMerged, k4_FnExactPartsMerged, k5_FnExactPartsMerged, k6_FnExactPartsMerged, k7_FnExactPartsMerged, k8_FnExactPartsMerged, k9_FnExactPartsMerged, k10_FnExactPartsMerged, k11_FnExactPartsMerged, k12_FnExactPartsMerged]
  kernel_rfl
theorem said_FnExactPartsMerged : Rows.FnExactPartsMergedSaid :=
  OpenClaim.holds_of_cond 3 Tryz.f3 rfl rfl rfl rfl rfl rfl rfl ⟨rfl, rfl, rfl, rfl, rfl⟩ rfl rfl rfl rfl rfl fnm_FnExactPartsMerged Tryz.func3 closed_FnExactPartsMerged
    (of_decide_eq_true (by kernel_rfl)) (by unfold Func.isWrapper; first | (rw [if_pos (by decide +kernel)]; kernel_rfl) | (rw [if_neg (by decide +kernel)]; exact ⟨rfl, rfl⟩))
    (fun os started H enc _ F => by rw [OpenClaim.pre_eq_preRow]; exact lifted_FnExactPartsMerged os started H enc F)
theorem looks_FnExactPartsMerged : false = Tryz.pinned.checked.prog.looks [] := by kernel_rfl
theorem plain_FnExactPartsMerged (f : FuncId) (fn : Func) (hf : Tryz.pinned.checked.prog.funcNamed "loop.example/g00719/laws.FnExactPartsMerged" = some f) (hfn : Tryz.pinned.checked.prog.funcs[f]? = some fn) :
    false = Tryz.pinned.checked.prog.looks [] ∧ ∀ (j : Nat) t, fn.params[j]? = some t → Tryz.pinned.checked.prog.wantsStandIn t = false := by
  obtain rfl : f = 3 := Option.some.inj (fnm_FnExactPartsMerged.symm.trans hf) |>.symm
  obtain rfl : fn = Tryz.f3 := (Option.some.inj (Tryz.func3.symm.trans hfn)).symm
  refine ⟨looks_FnExactPartsMerged, fun j t ht => ?_⟩
  have hall : (Tryz.f3.params.toList.all fun t => Tryz.prog.wantsStandIn t == false) = true := by kernel_rfl
  have := List.all_eq_true.1 hall t (by simpa using Array.mem_of_getElem? ht)
  have h9 : Tryz.prog.wantsStandIn t = false := by simpa using this
  exact h9
theorem gb_FnExactPartsMerged : false = Rows.fnExactPartsMergedRow.goesBy Tryz.pinned.checked.prog := by kernel_rfl
theorem wf_FnExactPartsMerged : Rows.fnExactPartsMergedRow.wfByText (OpenSpec.ofChange Rows.fnExactPartsMergedSpec) = true := by kernel_rfl
/-- The card. -/
theorem card_FnExactPartsMerged : Rows.FnExactPartsMergedCardSaid :=
  Claim7.holds_tied_plain_at .later [] _ _ _ _ said_FnExactPartsMerged (fun _ h => by cases h) wf_FnExactPartsMerged (fun _ h => by cases h) fnExactPartsMerged_row_tie rfl ⟨rfl, rfl⟩ (by kernel_rfl) rfl plain_FnExactPartsMerged gb_FnExactPartsMerged
#print axioms card_FnExactPartsMerged
end Go.Proofs.YtlhijdgafdfgeaaGreatDoor

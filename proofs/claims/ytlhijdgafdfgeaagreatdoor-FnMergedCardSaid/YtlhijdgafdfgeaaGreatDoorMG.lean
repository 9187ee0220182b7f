/- The statement Rows.FnMergedCardSaid of the law FnMerged, proved for every input that the row speaks of; no condition beyond the row's own. -/
import Derived.Test.YtlhijdgafdfgeaaGreatDoorCards
import Derived.Test.YtlhijdgafdfgeaaGreatDoorTie
import Derived.Test.YtlhijdgafdfgeaaGreatDoorF4
import Derived.WalkKit
import Derived.ProofKit
import Derived.OpenShut
import Derived.Deep.DeepHandedRow
import Derived.Deep.DeepWitnessRowRef
import Derived.Lib.LaidTab
set_option linter.all false
set_option linter.unnecessarySimpa false
set_option linter.unusedSectionVars false
set_option linter.unusedSimpArgs false
set_option linter.unusedVariables false
namespace Go.Proofs.YtlhijdgafdfgeaaGreatDoor
open Go Go.Ev Go.ChangeShapes Go.WideShapes Go.ChangeAt Go.RowKit
theorem own : ownKnob Tryz.prog.godebug = none := by kernel_rfl
theorem laidOut : laidOutB Tryz.prog = true := by kernel_rfl
theorem gTab : Tryz.prog.globalNamed "strings.asciiSpace" = some 0 := by kernel_rfl
theorem gTabType : (Tryz.prog.globals[0]?).map (·.type) = some 189 := by kernel_rfl
theorem cellsA : Tryz.prog.cellsOf 189 = 256 := by kernel_rfl
theorem cells5 : Tryz.prog.cellsOf 5 = 1 := by kernel_rfl
theorem asciiData : (Rows.laid_strings_asciiSpace : DataW Unit) = Lib.tabData .u8 Lib.asciiSpaceTab := by kernel_rfl
/-- What the rows' list gives. -/
theorem laid_of {W : World} (h : laidMet Tryz.prog [("unicode.White_Space", Rows.laid_unicode_White_Space), ("strings.asciiSpace", Rows.laid_strings_asciiSpace)] W) : Laid W fun b => b < W.heap.size := by
  rw [asciiData] at h
  obtain ⟨ps, ⟨_, _, _, _, _, _, _, _, _, _, hrest, _⟩, _⟩ := h
  obtain ⟨g', t', cs, fuel, p, q, hg', ht', hvar, hd, _, _⟩ := hrest
  obtain rfl := Option.some.inj (gTab.symm.trans hg')
  obtain rfl := Option.some.inj (gTabType.symm.trans ht')
  have htab : Lib.TabIs Tryz.prog W "strings.asciiSpace" .u8 Lib.asciiSpaceTab := by
    unfold Lib.TabIs
    rw [hvar, ← Lib.cells_of_tab Tryz.underlying189 Tryz.underlying5 cells5 cellsA hd]
  have hc : ∀ c : Nat, c < 256 → W.cell? ⟨0, c, none⟩ = some (.int .u8 (if Lib.isSp (UInt8.ofNat c) then 1 else 0)) := fun c hc => by
    rw [htab.cell gTab c (by rw [Lib.asciiSpaceTab_length]; exact hc), Lib.asciiSpaceTab_at c hc]
  intro p hp
  obtain rfl := List.mem_singleton.1 hp
  refine ⟨World.block_lt_of_cell? W _ (hc 0 (by decide)), fun i c hi => ?_⟩
  simp only [List.getElem?_map, Option.map_eq_some_iff] at hi
  obtain ⟨j, hj, rfl⟩ := hi
  obtain ⟨hlt, he⟩ := List.getElem?_eq_some_iff.1 hj
  simp only [List.length_range, List.getElem_range] at hlt he
  subst he
  exact ⟨_, hc i hlt, .v _ rfl⟩

/-- The witness: the settled world with two blocks more (the table's rows and its struct), the two variables holding what their initialisers lay. -/
noncomputable def laidWorld (os : Os) : World :=
  let N := (World.settled Tryz.prog os).heap.size
  let w0 := World.holding Tryz.prog os ⟨#[.cells #[.int .u16 9, .int .u16 13, .int .u16 1, .int .u16 32, .int .u16 133, .int .u16 101, .int .u16 160, .int .u16 5760, .int .u16 5600, .int .u16 8192, .int .u16 8202, .int .u16 1, .int .u16 8232, .int .u16 8233, .int .u16 1, .int .u16 8239, .int .u16 8287, .int .u16 48, .int .u16 12288, .int .u16 12288, .int .u16 1] 211, .cells #[.slice (some ⟨N, 0, none⟩) 7 7, .slice none 0 0, .int .i64 2] 208], #[], []⟩
  let put (h : Array Obj) (g : Nat) (cs : Array Value) : Array Obj := h.modify g fun
    | .cells _ t frozen => .cells cs t frozen
    | o => o
  { w0 with heap := put (put w0.heap 0 (Lib.asciiSpaceTab.map fun z => Value.int .u8 z).toArray) 1 #[.pointer (some ⟨N + 1, 0, none⟩)] }
theorem laid_met (os : Os) (args : Array Value) : laidMet Tryz.prog [("unicode.White_Space", Rows.laid_unicode_White_Space), ("strings.asciiSpace", Rows.laid_strings_asciiSpace)] ((laidWorld os).forCall (fun _ _ => 0) ⟨#[], args, []⟩).memory :=
  laidMet_of_run' 8 (by kernel_rfl) (by kernel_rfl)
abbrev Good5 (x : Int) : Prop := (Lit.int .u8 x).wf = true
theorem r5 : TyR Tryz.prog 5 (fun x : Int => [.v (.int .u8 x)]) 1 Good5 := TyR.int Tryz.underlying5 (by kernel_rfl)
abbrev Good41 (x : List Int) : Prop := x.length ≤ maxLen ∧ ∀ y ∈ x, Good5 y
theorem r41 : TyR Tryz.prog 41 (fun l : List Int => [.sl false 5 1 (List.map u8c l)]) 1 Good41 := TyR.slice Tryz.underlying41 (by kernel_rfl) r5
set_option maxRecDepth 100000 in
/-- What the walk gives, for every argument and every world that holds the listed variables. -/
theorem contract_FnMerged (H : Type) (enc : TypeId × Value → H) (W : World) (base : Nat) (args : Array Value) (ds gs : List (DataW H)) (before : List MemPlace)
    (hval : ∀ (j : Nat) t v, Tryz.f4.params[j]? = some t → args[j]? = some v → Value.okWide Tryz.prog W .any base t v)
    (hW : DataW.Whole enc Tryz.prog Tryz.f4.params.toList Rows.fnMergedSpec.vars false W args.toList ds gs before) (hL : laidMetH Tryz.prog Rows.fnMergedRow.laid W) :
    Calls Tryz.prog 4 args W fun e W' => ∃ v, e = .returned v ∧ Rows.fnMergedSpec.post enc Tryz.prog Tryz.f4 false true false false W args v W' := by
  have hW' := hW
  obtain ⟨p, q, hA0, hV, rfl, hfz, hnd⟩ := hW
  have hA : DataW.TrodAll enc Tryz.prog W 0 (fun _ => true) true Tryz.f4.params.toList args.toList ds p := hA0
  rw [Tryz.params4] at hA hval
  obtain ⟨v0, vs0, d0, ds0, p0, q0, hargs, rfl, rfl, h0, tr0⟩ := trodAll_cons hA
  obtain ⟨rfl, rfl, rfl⟩ := trodAll_nil tr0
  obtain rfl : args = #[v0] := by cases args; simp_all
  obtain ⟨rfl, rfl⟩ := trodVars_none hV
  obtain ⟨x0, g0, k0, e0, c0⟩ := r41.arg1 (one_sl Tryz.underlying41 (hval 0 41 v0 rfl rfl)) h0
  obtain ⟨G0, E0, C0⟩ := args_cons (p := (false, 1)) (sh := []) (vs := []) (ds := []) (g := g0) e0 c0 rfl (by simp) rfl (by simp)
  have q0 : ∀ x ∈ x0, 0 ≤ x ∧ x ≤ 255 := bytes_good k0.2
  have hcall := (c_FnMerged x0 q0).law (laid_of hL) (args := #[v0]) E0 (by simpa only [List.append_assoc, List.append_nil] using C0)
  refine hcall.mono fun e W' ⟨he, hb⟩ => ?_
  subst he
  have hread : (Tryz.f4.params.toList.all fun t => Tryz.prog.readableRec t && decide (t < Tryz.prog.types.size)) = true := by kernel_rfl
  exact ⟨_, rfl, post_law laidOut hW' rfl rfl rfl rfl hb (fun t ht => by simpa using List.all_eq_true.1 hread t ht) rfl Tryz.underlying4⟩
theorem witness_FnMerged (os : Os) {H : Type} (enc : TypeId × Value → H) : (OpenSpec.ofChange Rows.fnMergedSpec).preRow enc Tryz.prog Tryz.f4 Rows.fnMergedRow.domain false Rows.fnMergedRow.laid ((laidWorld os).forCall (fun _ _ => 0) ⟨#[], #[.slice none 0 0], []⟩).memory #[.slice none 0 0] := by
  have hw : (DataW.whole enc Tryz.prog ((laidWorld os).forCall (fun _ _ => 0) ⟨#[], #[.slice none 0 0], []⟩).memory Tryz.f4.params.toList Rows.fnMergedSpec.vars false #[.slice none 0 0].toList 8).map (fun x => (x.1, x.2.1)) =
      some ([.nil], []) := by kernel_rfl
  obtain ⟨⟨y1, y2, y3⟩, hx, hx1⟩ := Option.map_eq_some_iff.1 hw
  simp only [Prod.mk.injEq] at hx1
  obtain ⟨rfl, rfl⟩ := hx1
  exact OpenSpec.preRow_of_cond 8 hx (by kernel_rfl) (fun k hk => by cases hk) (by kernel_rfl) (laid_met os _)
theorem wv_FnMerged (os : Os) : ((laidWorld os).forCall (fun _ _ => 0) ⟨#[], #[.slice none 0 0], []⟩).variablesRefB Tryz.checked.prog = true := by kernel_rfl
theorem wr_FnMerged (os : Os) : (((laidWorld os).forCall (fun _ _ => 0) ⟨#[], #[.slice none 0 0], []⟩).heap.toList.drop Tryz.checked.prog.globals.size).take ((begin Tryz.checked.prog (fun _ _ => 0) default).world.heap.size - Tryz.checked.prog.globals.size) = (begin Tryz.checked.prog (fun _ _ => 0) default).world.heap.toList.drop Tryz.checked.prog.globals.size := by kernel_rfl
theorem wk_FnMerged (os : Os) : Input.okWideB Tryz.checked.prog ((laidWorld os).forCall (fun _ _ => 0) ⟨#[], #[.slice none 0 0], []⟩) 4 ⟨#[], #[.slice none 0 0], []⟩ = true := by kernel_rfl
set_option maxRecDepth 100000 in
theorem lifted_FnMerged (os : Os) (started : os.Started) (H : Type) (enc : TypeId × Value → H) (F : Stop.Interp) :
    ReturnsInHanded {} Tryz.checked os 4 .any ((OpenSpec.ofChange Rows.fnMergedSpec).preRow enc Tryz.prog Tryz.f4 Rows.fnMergedRow.domain false Rows.fnMergedRow.laid) (((OpenSpec.ofChange Rows.fnMergedSpec).at F).post enc Tryz.prog Tryz.f4 false true false false) := by
  refine returnsInHanded_of_row (C := Tryz.checked) (s := OpenSpec.ofChange Rows.fnMergedSpec) own started (by kernel_rfl) Tryz.func4
    (witness_row_atRef (enc := enc) (C := Tryz.checked) false (laidWorld os) #[.slice none 0 0] rfl (wv_FnMerged os) (wr_FnMerged os) (wk_FnMerged os) (witness_FnMerged os enc)) ?_
  intro W base args ds gs before hval hW _ _ _ hL _ _
  exact contract_FnMerged H enc W base args ds gs before hval hW hL
theorem fnm_FnMerged : Tryz.pinned.checked.prog.funcNamed "loop.example/g00719/laws.FnMerged" = some 4 := by kernel_rfl
theorem k0_FnMerged : Tryz.pinned.checked.prog.unfollowed 4 = Rows.fnMergedRow.unfollowed := by kernel_rfl
theorem k1_FnMerged : Tryz.pinned.checked.prog.recurses 4 = Rows.fnMergedRow.recurses := by kernel_rfl
theorem k2_FnMerged : Tryz.pinned.checked.prog.varsNamed 4 = Rows.fnMergedRow.named := by kernel_rfl
theorem k3_FnMerged : Tryz.pinned.checked.prog.liftsFinal = Rows.fnMergedRow.lifted := by kernel_rfl
theorem k4_FnMerged : Tryz.pinned.checked.prog.inPlace 4 = Rows.fnMergedRow.inPlace := by kernel_rfl
theorem k5_FnMerged : Tryz.pinned.checked.prog.make = some Rows.fnMergedRow.make := by kernel_rfl
theorem k6_FnMerged : Tryz.pinned.checked.prog.stopsHeard = true := by kernel_rfl
theorem k7_FnMerged : Tryz.pinned.checked.prog.mayEnter = true := by kernel_rfl
theorem k8_FnMerged : laidOutB Tryz.pinned.checked.prog = true := by kernel_rfl
theorem k9_FnMerged : mapsRowed Tryz.pinned.checked.prog = true := by kernel_rfl
theorem k10_FnMerged : Tryz.pinned.checked.prog.stops = [] := by kernel_rfl
theorem k11_FnMerged : Tryz.pinned.checked.prog.stopKnobs = [] := by kernel_rfl
theorem k12_FnMerged : Tryz.pinned.checked.prog.plainKeys = Rows.fnMergedRow.plainKeys := by kernel_rfl
theorem closed_FnMerged : joinedFacts Tryz.pinned.checked.prog 4 Tryz.f4 (OpenSpec.ofChange Rows.fnMergedSpec).bare Rows.fnMergedRow = true := by
  unfold joinedFacts
  rw [k0_FnMerged, k1_FnMerged, k2_FnMerged, k3_FnMerged, k4_FnMerged, k5_FnMerged, k6_FnMerged, k7_FnMerged, k8_FnMerged, k9_FnMerged, k10_FnMerged, k11_FnMerged, k12_FnMerged]
  kernel_rfl
theorem said_FnMerged : Rows.FnMergedSaid :=
  OpenClaim.holds_of_cond 4 Tryz.f4 rfl rfl rfl rfl rfl rfl rfl ⟨rfl, rfl, rfl, rfl, rfl⟩ rfl rfl rfl rfl rfl fnm_FnMerged Tryz.func4 closed_FnMerged
    (of_decide_eq_true (by kernel_rfl)) (by unfold Func.isWrapper; first | (rw [if_pos (by decide +kernel)]; kernel_rfl) | (rw [if_neg (by decide +kernel)]; exact ⟨rfl, rfl⟩))
    (fun os started H enc _ F => by rw [OpenClaim.pre_eq_preRow]; exact lifted_FnMerged os started H enc F)
theorem looks_FnMerged : false = Tryz.pinned.checked.prog.looks [] := by kernel_rfl
theorem plain_FnMerged (f : FuncId) (fn : Func) (hf : Tryz.pinned.checked.prog.funcNamed "loop.example/g00719/laws.FnMerged" = some f) (hfn : Tryz.pinned.checked.prog.funcs[f]? = some fn) :
    false = Tryz.pinned.checked.prog.looks [] ∧ ∀ (j : Nat) t, fn.params[j]? = some t → Tryz.pinned.checked.prog.wantsStandIn t = false := by
  obtain rfl : f = 4 := Option.some.inj (fnm_FnMerged.symm.trans hf) |>.symm
  obtain rfl : fn = Tryz.f4 := (Option.some.inj (Tryz.func4.symm.trans hfn)).symm
  refine ⟨looks_FnMerged, fun j t ht => ?_⟩
  have hall : (Tryz.f4.params.toList.all fun t => Tryz.prog.wantsStandIn t == false) = true := by kernel_rfl
  have := List.all_eq_true.1 hall t (by simpa using Array.mem_of_getElem? ht)
  have h9 : Tryz.prog.wantsStandIn t = false := by simpa using this
  exact h9
theorem gb_FnMerged : false = Rows.fnMergedRow.goesBy Tryz.pinned.checked.prog := by kernel_rfl
theorem wf_FnMerged : Rows.fnMergedRow.wfByText (OpenSpec.ofChange Rows.fnMergedSpec) = true := by kernel_rfl
/-- The card. -/
theorem card_FnMerged : Rows.FnMergedCardSaid :=
  Claim7.holds_tied_plain_at .later [] _ _ _ _ said_FnMerged (fun _ h => by cases h) wf_FnMerged (fun _ h => by cases h) fnMerged_row_tie rfl ⟨rfl, rfl⟩ (by kernel_rfl) rfl plain_FnMerged gb_FnMerged
#print axioms card_FnMerged
end Go.Proofs.YtlhijdgafdfgeaaGreatDoor

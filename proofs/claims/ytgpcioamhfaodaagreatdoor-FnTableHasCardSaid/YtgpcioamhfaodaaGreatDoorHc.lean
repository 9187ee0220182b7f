/- The statement Rows.FnTableHasCardSaid of the law FnTableHas, proved for every input that the row speaks of; no condition beyond the row's own. -/
import Derived.Test.YtgpcioamhfaodaaGreatDoorCards
import Derived.Test.YtgpcioamhfaodaaGreatDoorTie
import Derived.Test.YtgpcioamhfaodaaGreatDoorF4
import Derived.WalkKit
import Derived.ProofKit
import Derived.OpenShut
import Derived.Deep.DeepHandedRow
import Derived.Deep.DeepWitnessRowRef
import Derived.Lib.LaidTab
set_option linter.all false
set_option linter.unnecessarySimpa false
set_option linter.unusedSectionVars false
set_option linter.unusedSimpArgs false
set_option linter.unusedVariables false
namespace Go.Proofs.YtgpcioamhfaodaaGreatDoor
open Go Go.Ev Go.ChangeShapes Go.WideShapes Go.ChangeAt Go.RowKit
theorem own : ownKnob Tryz.prog.godebug = none := by kernel_rfl
theorem laidOut : laidOutB Tryz.prog = true := by kernel_rfl
theorem gTab : Tryz.prog.globalNamed "strings.asciiSpace" = some 0 := by kernel_rfl
theorem gTabType : (Tryz.prog.globals[0]?).map (·.type) = some 125 := by kernel_rfl
theorem cellsA : Tryz.prog.cellsOf 125 = 256 := by kernel_rfl
theorem cells5 : Tryz.prog.cellsOf 5 = 1 := by kernel_rfl
theorem asciiData : (Rows.laid_strings_asciiSpace : DataW Unit) = Lib.tabData .u8 Lib.asciiSpaceTab := by kernel_rfl
/-- What the rows' list gives. -/
theorem laid_of {W : World} (h : laidMet Tryz.prog [("unicode.White_Space", Rows.laid_unicode_White_Space), ("strings.asciiSpace", Rows.laid_strings_asciiSpace)] W) : Laid W fun b => b < W.heap.size := by
  rw [asciiData] at h
  obtain ⟨ps, ⟨_, _, _, _, _, _, _, _, _, _, hrest, _⟩, _⟩ := h
  obtain ⟨g', t', cs, fuel, p, q, hg', ht', hvar, hd, _, _⟩ := hrest
  obtain rfl := Option.some.inj (gTab.symm.trans hg')
  obtain rfl := Option.some.inj (gTabType.symm.trans ht')
  have htab : Lib.TabIs Tryz.prog W "strings.asciiSpace" .u8 Lib.asciiSpaceTab := by
    unfold Lib.TabIs
    rw [hvar, ← Lib.cells_of_tab Tryz.underlying125 Tryz.underlying5 cells5 cellsA hd]
  have hc : ∀ c : Nat, c < 256 → W.cell? ⟨0, c, none⟩ = some (.int .u8 (if Lib.isSp (UInt8.ofNat c) then 1 else 0)) := fun c hc => by
    rw [htab.cell gTab c (by rw [Lib.asciiSpaceTab_length]; exact hc), Lib.asciiSpaceTab_at c hc]
  intro p hp
  obtain rfl := List.mem_singleton.1 hp
  refine ⟨World.block_lt_of_cell? W _ (hc 0 (by decide)), fun i c hi => ?_⟩
  simp only [List.getElem?_map, Option.map_eq_some_iff] at hi
  obtain ⟨j, hj, rfl⟩ := hi
  obtain ⟨hlt, he⟩ := List.getElem?_eq_some_iff.1 hj
  simp only [List.length_range, List.getElem_range] at hlt he
  subst he
  exact ⟨_, hc i hlt, .v _ rfl⟩

/-- The witness: the settled world with two blocks more (the table's rows and its struct), the two variables holding what their initialisers lay. -/
noncomputable def laidWorld (os : Os) : World :=
  let N := (World.settled Tryz.prog os).heap.size
  let w0 := World.holding Tryz.prog os ⟨#[.cells #[.int .u16 9, .int .u16 13, .int .u16 1, .int .u16 32, .int .u16 133, .int .u16 101, .int .u16 160, .int .u16 5760, .int .u16 5600, .int .u16 8192, .int .u16 8202, .int .u16 1, .int .u16 8232, .int .u16 8233, .int .u16 1, .int .u16 8239, .int .u16 8287, .int .u16 48, .int .u16 12288, .int .u16 12288, .int .u16 1] 141, .cells #[.slice (some ⟨N, 0, none⟩) 7 7, .slice none 0 0, .int .i64 2] 138], #[], []⟩
  let put (h : Array Obj) (g : Nat) (cs : Array Value) : Array Obj := h.modify g fun
    | .cells _ t frozen => .cells cs t frozen
    | o => o
  { w0 with heap := put (put w0.heap 0 (Lib.asciiSpaceTab.map fun z => Value.int .u8 z).toArray) 1 #[.pointer (some ⟨N + 1, 0, none⟩)] }
theorem laid_met (os : Os) (args : Array Value) : laidMet Tryz.prog [("unicode.White_Space", Rows.laid_unicode_White_Space), ("strings.asciiSpace", Rows.laid_strings_asciiSpace)] ((laidWorld os).forCall (fun _ _ => 0) ⟨#[], args, []⟩).memory :=
  laidMet_of_run' 8 (by kernel_rfl) (by kernel_rfl)
abbrev Good5 (x : Int) : Prop := (Lit.int .u8 x).wf = true
theorem r5 : TyR Tryz.prog 5 (fun x : Int => [.v (.int .u8 x)]) 1 Good5 := TyR.int Tryz.underlying5 (by kernel_rfl)
abbrev Good22 (x : List Int) : Prop := x.length ≤ maxLen ∧ ∀ y ∈ x, Good5 y
theorem r22 : TyR Tryz.prog 22 (fun l : List Int => [.sl false 5 1 (List.map u8c l)]) 1 Good22 := TyR.slice Tryz.underlying22 (by kernel_rfl) r5
set_option maxRecDepth 100000 in
/-- What the walk gives, for every argument and every world that holds the listed variables. -/
theorem contract_FnTableHas (H : Type) (enc : TypeId × Value → H) (W : World) (base : Nat) (args : Array Value) (ds gs : List (DataW H)) (before : List MemPlace)
    (hval : ∀ (j : Nat) t v, Tryz.f3.params[j]? = some t → args[j]? = some v → Value.okWide Tryz.prog W .any base t v)
    (hW : DataW.Whole enc Tryz.prog Tryz.f3.params.toList Rows.fnTableHasSpec.vars false W args.toList ds gs before) (hL : laidMetH Tryz.prog Rows.fnTableHasRow.laid W) :
    Calls Tryz.prog 3 args W fun e W' => ∃ v, e = .returned v ∧ Rows.fnTableHasSpec.post enc Tryz.prog Tryz.f3 false true false false W args v W' := by
  have hW' := hW
  obtain ⟨p, q, hA0, hV, rfl, hfz, hnd⟩ := hW
  have hA : DataW.TrodAll enc Tryz.prog W 0 (fun _ => true) true Tryz.f3.params.toList args.toList ds p := hA0
  rw [Tryz.params3] at hA hval
  obtain ⟨v0, vs0, d0, ds0, p0, q0, hargs, rfl, rfl, h0, tr0⟩ := trodAll_cons hA
  obtain ⟨v1, vs1, d1, ds1, p1, q1, rfl, rfl, rfl, h1, tr1⟩ := trodAll_cons tr0
  obtain ⟨rfl, rfl, rfl⟩ := trodAll_nil tr1
  obtain rfl : args = #[v0, v1] := by cases args; simp_all
  obtain ⟨rfl, rfl⟩ := trodVars_none hV
  obtain ⟨x0, g0, k0, e0, c0⟩ := r22.arg1 (one_sl Tryz.underlying22 (hval 0 22 v0 rfl rfl)) h0
  obtain ⟨x1, g1, k1, e1, c1⟩ := r22.arg1 (one_sl Tryz.underlying22 (hval 1 22 v1 rfl rfl)) h1
  obtain ⟨G1, E1, C1⟩ := args_cons (p := (false, 1)) (sh := []) (vs := []) (ds := []) (g := g0) e1 c1 rfl (by simp) rfl (by simp)
  obtain ⟨G0, E0, C0⟩ := args_cons (p := (false, 1))  e0 c0 rfl (by simp) E1 C1
  have q0 : ∀ x ∈ x0, 0 ≤ x ∧ x ≤ 255 := bytes_good k0.2
  have q1 : ∀ x ∈ x1, 0 ≤ x ∧ x ≤ 255 := bytes_good k1.2
  have hcall := (c_FnTableHas x0 x1 q0 q1).law (laid_of hL) (args := #[v0, v1]) E0 (by simpa only [List.append_assoc, List.append_nil] using C0)
  refine hcall.mono fun e W' ⟨he, hb⟩ => ?_
  subst he
  have hread : (Tryz.f3.params.toList.all fun t => Tryz.prog.readableRec t && decide (t < Tryz.prog.types.size)) = true := by kernel_rfl
  exact ⟨_, rfl, post_law laidOut hW' rfl rfl rfl rfl hb (fun t ht => by simpa using List.all_eq_true.1 hread t ht) rfl Tryz.underlying4⟩
theorem witness_FnTableHas (os : Os) {H : Type} (enc : TypeId × Value → H) : (OpenSpec.ofChange Rows.fnTableHasSpec).preRow enc Tryz.prog Tryz.f3 Rows.fnTableHasRow.domain false Rows.fnTableHasRow.laid ((laidWorld os).forCall (fun _ _ => 0) ⟨#[], #[.slice none 0 0, .slice none 0 0], []⟩).memory #[.slice none 0 0, .slice none 0 0] := by
  have hw : (DataW.whole enc Tryz.prog ((laidWorld os).forCall (fun _ _ => 0) ⟨#[], #[.slice none 0 0, .slice none 0 0], []⟩).memory Tryz.f3.params.toList Rows.fnTableHasSpec.vars false #[.slice none 0 0, .slice none 0 0].toList 8).map (fun x => (x.1, x.2.1)) =
      some ([.nil, .nil], []) := by kernel_rfl
  obtain ⟨⟨y1, y2, y3⟩, hx, hx1⟩ := Option.map_eq_some_iff.1 hw
  simp only [Prod.mk.injEq] at hx1
  obtain ⟨rfl, rfl⟩ := hx1
  exact OpenSpec.preRow_of_cond 8 hx (by kernel_rfl) (fun k hk => by cases hk) (by kernel_rfl) (laid_met os _)
theorem wv_FnTableHas (os : Os) : ((laidWorld os).forCall (fun _ _ => 0) ⟨#[], #[.slice none 0 0, .slice none 0 0], []⟩).variablesRefB Tryz.checked.prog = true := by kernel_rfl
theorem wr_FnTableHas (os : Os) : (((laidWorld os).forCall (fun _ _ => 0) ⟨#[], #[.slice none 0 0, .slice none 0 0], []⟩).heap.toList.drop Tryz.checked.prog.globals.size).take ((begin Tryz.checked.prog (fun _ _ => 0) default).world.heap.size - Tryz.checked.prog.globals.size) = (begin Tryz.checked.prog (fun _ _ => 0) default).world.heap.toList.drop Tryz.checked.prog.globals.size := by kernel_rfl
theorem wk_FnTableHas (os : Os) : Input.okWideB Tryz.checked.prog ((laidWorld os).forCall (fun _ _ => 0) ⟨#[], #[.slice none 0 0, .slice none 0 0], []⟩) 3 ⟨#[], #[.slice none 0 0, .slice none 0 0], []⟩ = true := by kernel_rfl
set_option maxRecDepth 100000 in
theorem lifted_FnTableHas (os : Os) (started : os.Started) (H : Type) (enc : TypeId × Value → H) (F : Stop.Interp) :
    ReturnsInHanded {} Tryz.checked os 3 .any ((OpenSpec.ofChange Rows.fnTableHasSpec).preRow enc Tryz.prog Tryz.f3 Rows.fnTableHasRow.domain false Rows.fnTableHasRow.laid) (((OpenSpec.ofChange Rows.fnTableHasSpec).at F).post enc Tryz.prog Tryz.f3 false true false false) := by
  refine returnsInHanded_of_row (C := Tryz.checked) (s := OpenSpec.ofChange Rows.fnTableHasSpec) own started (by kernel_rfl) Tryz.func3
    (witness_row_atRef (enc := enc) (C := Tryz.checked) false (laidWorld os) #[.slice none 0 0, .slice none 0 0] rfl (wv_FnTableHas os) (wr_FnTableHas os) (wk_FnTableHas os) (witness_FnTableHas os enc)) ?_
  intro W base args ds gs before hval hW _ _ _ hL _ _
  exact contract_FnTableHas H enc W base args ds gs before hval hW hL
theorem fnm_FnTableHas : Tryz.pinned.checked.prog.funcNamed "loop.example/g00719/laws.FnTableHas" = some 3 := by kernel_rfl
theorem k0_FnTableHas : Tryz.pinned.checked.prog.unfollowed 3 = Rows.fnTableHasRow.unfollowed := by kernel_rfl
theorem k1_FnTableHas : Tryz.pinned.checked.prog.recurses 3 = Rows.fnTableHasRow.recurses := by kernel_rfl
theorem k2_FnTableHas : Tryz.pinned.checked.prog.varsNamed 3 = Rows.fnTableHasRow.named := by kernel_rfl
theorem k3_FnTableHas : Tryz.pinned.checked.prog.liftsFinal = Rows.fnTableHasRow.lifted := by kernel_rfl
theorem k4_FnTableHas : Tryz.pinned.checked.prog.inPlace 3 = Rows.fnTableHasRow.inPlace := by kernel_rfl
theorem k5_FnTableHas : Tryz.pinned.checked.prog.make = some Rows.fnTableHasRow.make := by kernel_rfl
theorem k6_FnTableHas : Tryz.pinned.checked.prog.stopsHeard = true := by kernel_rfl
theorem k7_FnTableHas : Tryz.pinned.checked.prog.mayEnter = true := by kernel_rfl
theorem k8_FnTableHas : laidOutB Tryz.pinned.checked.prog = true := by kernel_rfl
theorem k9_FnTableHas : mapsRowed Tryz.pinned.checked.prog = true := by kernel_rfl
theorem k10_FnTableHas : Tryz.pinned.checked.prog.stops = [] := by kernel_rfl
theorem k11_FnTableHas : Tryz.pinned.checked.prog.stopKnobs = [] := by kernel_rfl
theorem k12_FnTableHas : Tryz.pinned.checked.prog.plainKeys = Rows.fnTableHasRow.plainKeys := by kernel_rfl
theorem closed_FnTableHas : joinedFacts Tryz.pinned.checked.prog 3 Tryz.f3 (OpenSpec.ofChange Rows.fnTableHasSpec).bare Rows.fnTableHasRow = true := by
  unfold joinedFacts
  rw [k0_FnTableHas, k1_FnTableHas, k2_FnTableHas, k3_FnTableHas, k4_FnTableHas, k5_FnTableHas, k6_FnTableHas, k7_FnTableHas, k8_FnTableHas, k9_FnTableHas, k10_FnTableHas, k11_FnTableHas, k12_FnTableHas]
  kernel_rfl
theorem said_FnTableHas : Rows.FnTableHasSaid :=
  OpenClaim.holds_of_cond 3 Tryz.f3 rfl rfl rfl rfl rfl rfl rfl ⟨rfl, rfl, rfl, rfl, rfl⟩ rfl rfl rfl rfl rfl fnm_FnTableHas Tryz.func3 closed_FnTableHas
    (of_decide_eq_true (by kernel_rfl)) (by unfold Func.isWrapper; first | (rw [if_pos (by decide +kernel)]; kernel_rfl) | (rw [if_neg (by decide +kernel)]; exact ⟨rfl, rfl⟩))
    (fun os started H enc _ F => by rw [OpenClaim.pre_eq_preRow]; exact lifted_FnTableHas os started H enc F)
theorem looks_FnTableHas : false = Tryz.pinned.checked.prog.looks [] := by kernel_rfl
theorem plain_FnTableHas (f : FuncId) (fn : Func) (hf : Tryz.pinned.checked.prog.funcNamed "loop.example/g00719/laws.FnTableHas" = some f) (hfn : Tryz.pinned.checked.prog.funcs[f]? = some fn) :
    false = Tryz.pinned.checked.prog.looks [] ∧ ∀ (j : Nat) t, fn.params[j]? = some t → Tryz.pinned.checked.prog.wantsStandIn t = false := by
  obtain rfl : f = 3 := Option.some.inj (fnm_FnTableHas.symm.trans hf) |>.symm
  obtain rfl : fn = Tryz.f3 := (Option.some.inj (Tryz.func3.symm.trans hfn)).symm
  refine ⟨looks_FnTableHas, fun j t ht => ?_⟩
  have hall : (Tryz.f3.params.toList.all fun t => Tryz.prog.wantsStandIn t == false) = true := by kernel_rfl
  have := List.all_eq_true.1 hall t (by simpa using Array.mem_of_getElem? ht)
  have h9 : Tryz.prog.wantsStandIn t = false := by simpa using this
  exact h9
theorem gb_FnTableHas : false = Rows.fnTableHasRow.goesBy Tryz.pinned.checked.prog := by kernel_rfl
theorem wf_FnTableHas : Rows.fnTableHasRow.wfByText (OpenSpec.ofChange Rows.fnTableHasSpec) = true := by kernel_rfl
/-- The card. -/
theorem card_FnTableHas : Rows.FnTableHasCardSaid :=
  Claim7.holds_tied_plain_at .later [] _ _ _ _ said_FnTableHas (fun _ h => by cases h) wf_FnTableHas (fun _ h => by cases h) fnTableHas_row_tie rfl ⟨rfl, rfl⟩ (by kernel_rfl) rfl plain_FnTableHas gb_FnTableHas
#print axioms card_FnTableHas
end Go.Proofs.YtgpcioamhfaodaaGreatDoor

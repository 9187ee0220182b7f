/- The statement Rows.FnExactPartsWidenCardSaid of the law FnExactPartsWiden, proved for every input that the row speaks of; no condition beyond the row's own. -/
import Derived.Test.YtieoiccmlhjioaaGreatDoorCards
import Derived.Test.YtieoiccmlhjioaaGreatDoorTie
import Derived.Test.YtieoiccmlhjioaaGreatDoorF4
import Derived.WalkKit
import Derived.ProofKit
import Derived.OpenShut
import Derived.Deep.DeepHandedRow
import Derived.Deep.DeepWitnessRowRef
import Derived.Lib.LaidTab
set_option linter.all false
set_option linter.unnecessarySimpa false
set_option linter.unusedSectionVars false
set_option linter.unusedSimpArgs false
set_option linter.unusedVariables false
namespace Go.Proofs.YtieoiccmlhjioaaGreatDoor
open Go Go.Ev Go.ChangeShapes Go.WideShapes Go.ChangeAt Go.RowKit
theorem own : ownKnob Tryz.prog.godebug = none := by kernel_rfl
theorem laidOut : laidOutB Tryz.prog = true := by kernel_rfl
theorem gTab : Tryz.prog.globalNamed "strings.asciiSpace" = some 0 := by kernel_rfl
theorem gTabType : (Tryz.prog.globals[0]?).map (·.type) = some 225 := by kernel_rfl
theorem cellsA : Tryz.prog.cellsOf 225 = 256 := by kernel_rfl
theorem cells5 : Tryz.prog.cellsOf 5 = 1 := by kernel_rfl
theorem asciiData : (Rows.laid_strings_asciiSpace : DataW Unit) = Lib.tabData .u8 Lib.asciiSpaceTab := by kernel_rfl
/-- What the rows' list gives. -/
theorem laid_of {W : World} (h : laidMet Tryz.prog [("unicode.White_Space", Rows.laid_unicode_White_Space), ("strings.asciiSpace", Rows.laid_strings_asciiSpace)] W) : Laid W fun b => b < W.heap.size := by
  rw [asciiData] at h
  obtain ⟨ps, ⟨_, _, _, _, _, _, _, _, _, _, hrest, _⟩, _⟩ := h
  obtain ⟨g', t', cs, fuel, p, q, hg', ht', hvar, hd, _, _⟩ := hrest
  obtain rfl := Option.some.inj (gTab.symm.trans hg')
  obtain rfl := Option.some.inj (gTabType.symm.trans ht')
  have htab : Lib.TabIs Tryz.prog W "strings.asciiSpace" .u8 Lib.asciiSpaceTab := by
    unfold Lib.TabIs
    rw [hvar, ← Lib.cells_of_tab Tryz.underlying225 Tryz.underlying5 cells5 cellsA hd]
  have hc : ∀ c : Nat, c < 256 → W.cell? ⟨0, c, none⟩ = some (.int .u8 (if Lib.isSp (UInt8.ofNat c) then 1 else 0)) := fun c hc => by
    rw [htab.cell gTab c (by rw [Lib.asciiSpaceTab_length]; exact hc), Lib.asciiSpaceTab_at c hc]
  intro p hp
  obtain rfl := List.mem_singleton.1 hp
  refine ⟨World.block_lt_of_cell? W _ (hc 0 (by decide)), fun i c hi => ?_⟩
  simp only [List.getElem?_map, Option.map_eq_some_iff] at hi
  obtain ⟨j, hj, rfl⟩ := hi
  obtain ⟨hlt, he⟩ := List.getElem?_eq_some_iff.1 hj
  simp only [List.length_range, List.getElem_range] at hlt he
  subst he
  exact ⟨_, hc i hlt, .v _ rfl⟩

/-- The witness: the settled world with two blocks more (the table's rows and its struct), the two variables holding what their initialisers lay. -/
noncomputable def laidWorld (os : Os) : World :=
  let N := (World.settled Tryz.prog os).heap.size
  let w0 := World.holding Tryz.prog os ⟨#[.cells #[.int .u16 9, .int .u16 13, .int .u16 1, .int .u16 32, .int .u16 133, .int .u16 101, .int .u16 160, .int .u16 5760, .int .u16 5600, .int .u16 8192, .int .u16 8202, .int .u16 1, .int .u16 8232, .int .u16 8233, .int .u16 1, .int .u16 8239, .int .u16 8287, .int .u16 48, .int .u16 12288, .int .u16 12288, .int .u16 1] 244, .cells #[.slice (some ⟨N, 0, none⟩) 7 7, .slice none 0 0, .int .i64 2] 241], #[], []⟩
  let put (h : Array Obj) (g : Nat) (cs : Array Value) : Array Obj := h.modify g fun
    | .cells _ t frozen => .cells cs t frozen
    | o => o
  { w0 with heap := put (put w0.heap 0 (Lib.asciiSpaceTab.map fun z => Value.int .u8 z).toArray) 1 #[.pointer (some ⟨N + 1, 0, none⟩)] }
theorem laid_met (os : Os) (args : Array Value) : laidMet Tryz.prog [("unicode.White_Space", Rows.laid_unicode_White_Space), ("strings.asciiSpace", Rows.laid_strings_asciiSpace)] ((laidWorld os).forCall (fun _ _ => 0) ⟨#[], args, []⟩).memory :=
  laidMet_of_run' 8 (by kernel_rfl) (by kernel_rfl)
abbrev Good9 (x : ByteArray) : Prop := x.size ≤ maxLen
theorem r9 : TyR Tryz.prog 9 (fun x : ByteArray => [.v (.string x)]) 1 Good9 := TyR.str Tryz.underlying9 (by kernel_rfl)
abbrev Good22 (x : List ByteArray) : Prop := x.length ≤ maxLen ∧ ∀ y ∈ x, Good9 y
theorem r22 : TyR Tryz.prog 22 (fun l : List ByteArray => [.sl false 9 1 (List.map strc l)]) 1 Good22 := TyR.slice Tryz.underlying22 (by kernel_rfl) r9
abbrev Good2 (x : Int) : Prop := (Lit.int .i64 x).wf = true
theorem r2 : TyR Tryz.prog 2 (fun x : Int => [.v (.int .i64 x)]) 1 Good2 := TyR.int Tryz.underlying2 (by kernel_rfl)
abbrev Good126 (x : Arr) : Prop := Good9 x.name ∧ Good2 x.size
theorem r126 : TyR Tryz.prog 126 Arr.c 2 Good126 := TyR.st2 Arr.mk Tryz.underlying126 (by kernel_rfl) r9 r2 rfl rfl (fun _ _ => rfl) (fun _ => rfl) (fun _ _ h0 h1 => ⟨h0, h1⟩)
abbrev Good23 (x : List Arr) : Prop := x.length ≤ maxLen ∧ ∀ y ∈ x, Good126 y
theorem r23 : TyR Tryz.prog 23 (fun l : List Arr => [.sl false 126 2 (List.map Arr.c l)]) 1 Good23 := TyR.slice Tryz.underlying23 (by kernel_rfl) r126
abbrev Good25 (x : Decl) : Prop := Good22 x.vars ∧ Good22 x.flags ∧ Good23 x.arrays
theorem r25 : TyR Tryz.prog 25 Decl.c25 3 Good25 := TyR.st3 Decl.mk Tryz.underlying25 (by kernel_rfl) r22 r22 r23 rfl rfl rfl (fun _ _ _ => rfl) (fun _ => rfl) (fun _ _ _ h0 h1 h2 => ⟨h0, h1, h2⟩)
abbrev Good175 (x : Entry) : Prop := Good2 x.line ∧ Good2 x.pick
theorem r175 : TyR Tryz.prog 175 Entry.c 2 Good175 := TyR.st2 Entry.mk Tryz.underlying175 (by kernel_rfl) r2 r2 rfl rfl (fun _ _ => rfl) (fun _ => rfl) (fun _ _ h0 h1 => ⟨h0, h1⟩)
abbrev Good71 (x : List Entry) : Prop := x.length ≤ maxLen ∧ ∀ y ∈ x, Good175 y
theorem r71 : TyR Tryz.prog 71 (fun l : List Entry => [.sl false 175 2 (List.map Entry.c l)]) 1 Good71 := TyR.slice Tryz.underlying71 (by kernel_rfl) r175
abbrev Good4 (x : Bool) : Prop := True
theorem r4 : TyR Tryz.prog 4 (fun x : Bool => [.v (.bool x)]) 1 Good4 := TyR.bool Tryz.underlying4 (by kernel_rfl)
abbrev Good221 (x : Iv) : Prop := Good2 x.lo ∧ Good2 x.hi
theorem r221 : TyR Tryz.prog 221 Iv.c 2 Good221 := TyR.st2 Iv.mk Tryz.underlying221 (by kernel_rfl) r2 r2 rfl rfl (fun _ _ => rfl) (fun _ => rfl) (fun _ _ h0 h1 => ⟨h0, h1⟩)
abbrev Good168 (x : List Iv) : Prop := x.length ≤ maxLen ∧ ∀ y ∈ x, Good221 y
theorem r168 : TyR Tryz.prog 168 (fun l : List Iv => [.sl false 221 2 (List.map Iv.c l)]) 1 Good168 := TyR.slice Tryz.underlying168 (by kernel_rfl) r221
abbrev Good170 (x : Env) : Prop := Good4 x.live ∧ Good168 x.ints ∧ Good168 x.arrs
theorem r170 : TyR Tryz.prog 170 Env.c170 3 Good170 := TyR.st3 Env.mk Tryz.underlying170 (by kernel_rfl) r4 r168 r168 rfl rfl rfl (fun _ _ _ => rfl) (fun _ => rfl) (fun _ _ _ h0 h1 h2 => ⟨h0, h1, h2⟩)
abbrev Good72 (x : List Env) : Prop := x.length ≤ maxLen ∧ ∀ y ∈ x, Good170 y
theorem r72 : TyR Tryz.prog 72 (fun l : List Env => [.sl false 170 3 (List.map Env.c170 l)]) 1 Good72 := TyR.slice Tryz.underlying72 (by kernel_rfl) r170
abbrev Good74 (x : Part) : Prop := Good71 x.token ∧ Good72 x.table
theorem r74 : TyR Tryz.prog 74 Part.c74 2 Good74 := TyR.st2 Part.mk Tryz.underlying74 (by kernel_rfl) r71 r72 rfl rfl (fun _ _ => rfl) (fun _ => rfl) (fun _ _ h0 h1 => ⟨h0, h1⟩)
abbrev Good26 (x : List Part) : Prop := x.length ≤ maxLen ∧ ∀ y ∈ x, Good74 y
theorem r26 : TyR Tryz.prog 26 (fun l : List Part => [.sl false 74 2 (List.map Part.c74 l)]) 1 Good26 := TyR.slice Tryz.underlying26 (by kernel_rfl) r74
abbrev Good41 (x : List Int) : Prop := x.length ≤ maxLen ∧ ∀ y ∈ x, Good2 y
theorem r41 : TyR Tryz.prog 41 (fun l : List Int => [.sl false 2 1 (List.map i64c l)]) 1 Good41 := TyR.slice Tryz.underlying41 (by kernel_rfl) r2
set_option maxRecDepth 100000 in
/-- What the walk gives, for every argument and every world that holds the listed variables. -/
theorem contract_FnExactPartsWiden (H : Type) (enc : TypeId × Value → H) (W : World) (base : Nat) (args : Array Value) (ds gs : List (DataW H)) (before : List MemPlace)
    (hval : ∀ (j : Nat) t v, Tryz.f4.params[j]? = some t → args[j]? = some v → Value.okWide Tryz.prog W .any base t v)
    (hW : DataW.Whole enc Tryz.prog Tryz.f4.params.toList Rows.fnExactPartsWidenSpec.vars false W args.toList ds gs before) (hL : laidMetH Tryz.prog Rows.fnExactPartsWidenRow.laid W) :
    Calls Tryz.prog 4 args W fun e W' => ∃ v, e = .returned v ∧ Rows.fnExactPartsWidenSpec.post enc Tryz.prog Tryz.f4 false true false false W args v W' := by
  have hW' := hW
  obtain ⟨p, q, hA0, hV, rfl, hfz, hnd⟩ := hW
  have hA : DataW.TrodAll enc Tryz.prog W 0 (fun _ => true) true Tryz.f4.params.toList args.toList ds p := hA0
  rw [Tryz.params4] at hA hval
  obtain ⟨v0, vs0, d0, ds0, p0, q0, hargs, rfl, rfl, h0, tr0⟩ := trodAll_cons hA
  obtain ⟨v1, vs1, d1, ds1, p1, q1, rfl, rfl, rfl, h1, tr1⟩ := trodAll_cons tr0
  obtain ⟨v2, vs2, d2, ds2, p2, q2, rfl, rfl, rfl, h2, tr2⟩ := trodAll_cons tr1
  obtain ⟨v3, vs3, d3, ds3, p3, q3, rfl, rfl, rfl, h3, tr3⟩ := trodAll_cons tr2
  obtain ⟨rfl, rfl, rfl⟩ := trodAll_nil tr3
  obtain rfl : args = #[v0, v1, v2, v3] := by cases args; simp_all
  obtain ⟨rfl, rfl⟩ := trodVars_none hV
  obtain ⟨x0, g0, k0, e0, c0⟩ := r25.arg Tryz.underlying25 (hval 0 25 v0 rfl rfl) h0
  obtain ⟨x1, g1, k1, e1, c1⟩ := r26.arg1 (one_sl Tryz.underlying26 (hval 1 26 v1 rfl rfl)) h1
  obtain ⟨x2, g2, k2, e2, c2⟩ := r26.arg1 (one_sl Tryz.underlying26 (hval 2 26 v2 rfl rfl)) h2
  obtain ⟨x3, g3, k3, e3, c3⟩ := r41.arg1 (one_sl Tryz.underlying41 (hval 3 41 v3 rfl rfl)) h3
  obtain ⟨G3, E3, C3⟩ := args_cons (p := (false, 1)) (sh := []) (vs := []) (ds := []) (g := g0) e3 c3 rfl (by simp) rfl (by simp)
  obtain ⟨G2, E2, C2⟩ := args_cons (p := (false, 1))  e2 c2 rfl (by simp) E3 C3
  obtain ⟨G1, E1, C1⟩ := args_cons (p := (false, 1))  e1 c1 rfl (by simp) E2 C2
  obtain ⟨G0, E0, C0⟩ := args_cons (p := (true, 3))  e0 c0 rfl (by simp) E1 C1
  have q0 : ∀ x ∈ Decl.names x0, x.size ≤ 9223372036854775807 := names_good k0.1.2 k0.2.1.2 k0.2.2.2
  have q1 : ∀ x ∈ x0.vars, 0 ≤ strW x ∧ strW x ≤ 9223372036854775807 := strs_good k0.1.2
  have q2 : ∀ x ∈ x0.flags, 0 ≤ strW x ∧ strW x ≤ 9223372036854775807 := strs_good k0.2.1.2
  have q3 : ∀ x ∈ x0.arrays, 0 ≤ arrW x ∧ arrW x ≤ 9223372036854775807 := arrs_good k0.2.2.2
  have hcall := (c_FnExactPartsWiden x0 x1 x2 x3 q0 q1 q2 q3).law (laid_of hL) (args := #[v0, v1, v2, v3]) E0 (by simpa only [List.append_assoc, List.append_nil] using C0)
  refine hcall.mono fun e W' ⟨he, hb⟩ => ?_
  subst he
  have hread : (Tryz.f4.params.toList.all fun t => Tryz.prog.readableRec t && decide (t < Tryz.prog.types.size)) = true := by kernel_rfl
  exact ⟨_, rfl, post_law laidOut hW' rfl rfl rfl rfl hb (fun t ht => by simpa using List.all_eq_true.1 hread t ht) rfl Tryz.underlying4⟩
theorem witness_FnExactPartsWiden (os : Os) {H : Type} (enc : TypeId × Value → H) : (OpenSpec.ofChange Rows.fnExactPartsWidenSpec).preRow enc Tryz.prog Tryz.f4 Rows.fnExactPartsWidenRow.domain false Rows.fnExactPartsWidenRow.laid ((laidWorld os).forCall (fun _ _ => 0) ⟨#[], #[.agg #[.slice none 0 0, .slice none 0 0, .slice none 0 0], .slice none 0 0, .slice none 0 0, .slice none 0 0], []⟩).memory #[.agg #[.slice none 0 0, .slice none 0 0, .slice none 0 0], .slice none 0 0, .slice none 0 0, .slice none 0 0] := by
  have hw : (DataW.whole enc Tryz.prog ((laidWorld os).forCall (fun _ _ => 0) ⟨#[], #[.agg #[.slice none 0 0, .slice none 0 0, .slice none 0 0], .slice none 0 0, .slice none 0 0, .slice none 0 0], []⟩).memory Tryz.f4.params.toList Rows.fnExactPartsWidenSpec.vars false #[Value.agg #[.slice none 0 0, .slice none 0 0, .slice none 0 0], .slice none 0 0, .slice none 0 0, .slice none 0 0].toList 8).map (fun x => (x.1, x.2.1)) =
      some ([.agg [.nil, .nil, .nil], .nil, .nil, .nil], []) := by kernel_rfl
  obtain ⟨⟨y1, y2, y3⟩, hx, hx1⟩ := Option.map_eq_some_iff.1 hw
  simp only [Prod.mk.injEq] at hx1
  obtain ⟨rfl, rfl⟩ := hx1
  exact OpenSpec.preRow_of_cond 8 hx (by kernel_rfl) (fun k hk => by cases hk) (by kernel_rfl) (laid_met os _)
theorem wv_FnExactPartsWiden (os : Os) : ((laidWorld os).forCall (fun _ _ => 0) ⟨#[], #[.agg #[.slice none 0 0, .slice none 0 0, .slice none 0 0], .slice none 0 0, .slice none 0 0, .slice none 0 0], []⟩).variablesRefB Tryz.checked.prog = true := by kernel_rfl
theorem wr_FnExactPartsWiden (os : Os) : (((laidWorld os).forCall (fun _ _ => 0) ⟨#[], #[.agg #[.slice none 0 0, .slice none 0 0, .slice none 0 0], .slice none 0 0, .slice none 0 0, .slice none 0 0], []⟩).heap.toList.drop Tryz.checked.prog.globals.size).take ((begin Tryz.checked.prog (fun _ _ => 0) default).world.heap.size - Tryz.checked.prog.globals.size) = (begin Tryz.checked.prog (fun _ _ => 0) default).world.heap.toList.drop Tryz.checked.prog.globals.size := by kernel_rfl
theorem wk_FnExactPartsWiden (os : Os) : Input.okWideB Tryz.checked.prog ((laidWorld os).forCall (fun _ _ => 0) ⟨#[], #[.agg #[.slice none 0 0, .slice none 0 0, .slice none 0 0], .slice none 0 0, .slice none 0 0, .slice none 0 0], []⟩) 4 ⟨#[], #[.agg #[.slice none 0 0, .slice none 0 0, .slice none 0 0], .slice none 0 0, .slice none 0 0, .slice none 0 0], []⟩ = true := by kernel_rfl
set_option maxRecDepth 100000 in
theorem lifted_FnExactPartsWiden (os : Os) (started : os.Started) (H : Type) (enc : TypeId × Value → H) (F : Stop.Interp) :
    ReturnsInHanded {} Tryz.checked os 4 .any ((OpenSpec.ofChange Rows.fnExactPartsWidenSpec).preRow enc Tryz.prog Tryz.f4 Rows.fnExactPartsWidenRow.domain false Rows.fnExactPartsWidenRow.laid) (((OpenSpec.ofChange Rows.fnExactPartsWidenSpec).at F).post enc Tryz.prog Tryz.f4 false true false false) := by
  refine returnsInHanded_of_row (C := Tryz.checked) (s := OpenSpec.ofChange Rows.fnExactPartsWidenSpec) own started (by kernel_rfl) Tryz.func4
    (witness_row_atRef (enc := enc) (C := Tryz.checked) false (laidWorld os) #[.agg #[.slice none 0 0, .slice none 0 0, .slice none 0 0], .slice none 0 0, .slice none 0 0, .slice none 0 0] rfl (wv_FnExactPartsWiden os) (wr_FnExactPartsWiden os) (wk_FnExactPartsWiden os) (witness_FnExactPartsWiden os enc)) ?_
  intro W base args ds gs before hval hW _ _ _ hL _ _
  exact contract_FnExactPartsWiden H enc W base args ds gs before hval hW hL
theorem fnm_FnExactPartsWiden : Tryz.pinned.checked.prog.funcNamed "loop.example/g00719/laws.FnExactPartsWiden" = some 4 := by kernel_rfl
theorem k0_FnExactPartsWiden : Tryz.pinned.checked.prog.unfollowed 4 = Rows.fnExactPartsWidenRow.unfollowed := by kernel_rfl
theorem k1_FnExactPartsWiden : Tryz.pinned.checked.prog.recurses 4 = Rows.fnExactPartsWidenRow.recurses := by kernel_rfl
theorem k2_FnExactPartsWiden : Tryz.pinned.checked.prog.varsNamed 4 = Rows.fnExactPartsWidenRow.named := by kernel_rfl
theorem k3_FnExactPartsWiden : Tryz.pinned.checked.prog.liftsFinal = Rows.fnExactPartsWidenRow.lifted := by kernel_rfl
theorem k4_FnExactPartsWiden : Tryz.pinned.checked.prog.inPlace 4 = Rows.fnExactPartsWidenRow.inPlace := by kernel_rfl
theorem k5_FnExactPartsWiden : Tryz.pinned.checked.prog.make = some Rows.fnExactPartsWidenRow.make := by kernel_rfl
theorem k6_FnExactPartsWiden : Tryz.pinned.checked.prog.stopsHeard = true := by kernel_rfl
theorem k7_FnExactPartsWiden : Tryz.pinned.checked.prog.mayEnter = true := by kernel_rfl
theorem k8_FnExactPartsWiden : laidOutB Tryz.pinned.checked.prog = true := by kernel_rfl
theorem k9_FnExactPartsWiden : mapsRowed Tryz.pinned.checked.prog = true := by kernel_rfl
theorem k10_FnExactPartsWiden : Tryz.pinned.checked.prog.stops = [] := by kernel_rfl
theorem k11_FnExactPartsWiden : Tryz.pinned.checked.prog.stopKnobs = [] := by kernel_rfl
theorem k12_FnExactPartsWiden : Tryz.pinned.checked.prog.plainKeys = Rows.fnExactPartsWidenRow.plainKeys := by kernel_rfl
theorem closed_FnExactPartsWiden : joinedFacts Tryz.pinned.checked.prog 4 Tryz.f4 (OpenSpec.ofChange Rows.fnExactPartsWidenSpec).bare Rows.fnExactPartsWidenRow = true := by
  unfold joinedFacts
  rw [k0_FnExactPartsWiden, k1_FnExactPartsWiden, k2_FnExactPartsWiden, k3_FnExactPartsWiden, k4_FnExactPartsWiden, k5_FnExactPartsWiden, k6_FnExactPartsWiden, k7_FnExactPartsWiden, k8_FnExactPartsWiden, k9_FnExactPartsWiden, k10_FnExactPartsWiden, k11_FnExactPartsWiden, k12_FnExactPartsWiden]
  kernel_rfl
theorem said_FnExactPartsWiden : Rows.FnExactPartsWidenSaid :=
  OpenClaim.holds_of_cond 4 Tryz.f4 rfl rfl rfl rfl rfl rfl rfl ⟨rfl, rfl, rfl, rfl, rfl⟩ rfl rfl rfl rfl rfl fnm_FnExactPartsWiden Tryz.func4 closed_FnExactPartsWiden
    (of_decide_eq_true (by kernel_rfl)) (by unfold Func.isWrapper; first | (rw [if_pos (by decide +kernel)]; kernel_rfl) | (rw [if_neg (by decide +kernel)]; exact ⟨rfl, rfl⟩))
    (fun os started H enc _ F => by rw [OpenClaim.pre_eq_preRow]; exact lifted_FnExactPartsWiden os started H enc F)
theorem looks_FnExactPartsWiden : false = Tryz.pinned.checked.prog.looks [] := by kernel_rfl
theorem plain_FnExactPartsWiden (f : FuncId) (fn : Func) (hf : Tryz.pinned.checked.prog.funcNamed "loop.example/g00719/laws.FnExactPartsWiden" = some f) (hfn : Tryz.pinned.checked.prog.funcs[f]? = some fn) :
    false = Tryz.pinned.checked.prog.looks [] ∧ ∀ (j : Nat) t, fn.params[j]? = some t → Tryz.pinned.checked.prog.wantsStandIn t = false := by
  obtain rfl : f = 4 := Option.some.inj (fnm_FnExactPartsWiden.symm.trans hf) |>.symm
  obtain rfl : fn = Tryz.f4 := (Option.some.inj (Tryz.func4.symm.trans hfn)).symm
  refine ⟨looks_FnExactPartsWiden, fun j t ht => ?_⟩
  have hall : (Tryz.f4.params.toList.all fun t => Tryz.prog.wantsStandIn t == false) = true := by kernel_rfl
  have := List.all_eq_true.1 hall t (by simpa using Array.mem_of_getElem? ht)
  have h9 : Tryz.prog.wantsStandIn t = false := by simpa using this
  exact h9
theorem gb_FnExactPartsWiden : false = Rows.fnExactPartsWidenRow.goesBy Tryz.pinned.checked.prog := by kernel_rfl
theorem wf_FnExactPartsWiden : Rows.fnExactPartsWidenRow.wfByText (OpenSpec.ofChange Rows.fnExactPartsWidenSpec) = true := by kernel_rfl
/-- The card. -/
theorem card_FnExactPartsWiden : Rows.FnExactPartsWidenCardSaid :=
  Claim7.holds_tied_plain_at .later [] _ _ _ _ said_FnExactPartsWiden (fun _ h => by cases h) wf_FnExactPartsWiden (fun _ h => by cases h) fnExactPartsWiden_row_tie rfl ⟨rfl, rfl⟩ (by kernel_rfl) rfl plain_FnExactPartsWiden gb_FnExactPartsWiden
#print axioms card_FnExactPartsWiden
end Go.Proofs.YtieoiccmlhjioaaGreatDoor

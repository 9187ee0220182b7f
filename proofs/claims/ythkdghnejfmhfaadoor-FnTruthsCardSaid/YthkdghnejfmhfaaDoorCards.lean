/-
  DERIVED. GIVEN WITH THE SEED: THE CARDS: each row of YthkdghnejfmhfaaDoorRows.lean that lists a variable, with what it lists TIED to the program's text (the seventh form; the later family's looks); each row that meets fmt, with fmt's text TOLD by the authors' own Lean function (tested against real Go, not proved from fmt's source: count such statements apart). THE CARD IS WHAT COUNTS. Prove the row's statement (the work); the ties are given (YthkdghnejfmhfaaDoorTie.lean); close each card by the builder's one call (the guide's Derived/Test/ToyasCard.lean, 'card_holds'). Laid BY PROGRAM, IN A SANDBOX (cutbox-door.mjs). By AI agents, Wed Nov 11 2026. No macro, syntax, notation, axiom, sorry.
-/
import Derived.Test.YthkdghnejfmhfaaDoorRows
import GoSem.ClaimSeven
namespace Go.Proofs.YthkdghnejfmhfaaDoor
namespace Rows

/-- THE TIED CARD OF 'laws.FnRefine'. -/
def fnRefineCard : Claim7 := { stood := { row := fnRefineRow, standIns := [], harness := (true, "159fb2ec1374a5127aa432ca2e3ac339fc6d2bfb29713546977a65ada0a97381"), looks := false }, kinds := [], alts := [], laidByText := true, laidKinds := [.listed, .data], laidTests := true, laidLooks := .later }
def FnRefineCardSaid : Prop := Claim7.holds Tryd.pinned (.plain (OpenSpec.ofChange fnRefineSpec)) fnRefineCard

/-- THE TIED CARD OF 'laws.FnTruths'. -/
def fnTruthsCard : Claim7 := { stood := { row := fnTruthsRow, standIns := [], harness := (true, "159fb2ec1374a5127aa432ca2e3ac339fc6d2bfb29713546977a65ada0a97381"), looks := false }, kinds := [], alts := [], laidByText := true, laidKinds := [.listed, .data], laidTests := true, laidLooks := .later }
def FnTruthsCardSaid : Prop := Claim7.holds Tryd.pinned (.plain (OpenSpec.ofChange fnTruthsSpec)) fnTruthsCard

/-- THE SECOND FORM's CARD OF 'laws.FnRefine'. -/
def fnRefineUptoCard : Claim7 := { stood := { row := fnRefineUptoRow, standIns := [], harness := (true, "159fb2ec1374a5127aa432ca2e3ac339fc6d2bfb29713546977a65ada0a97381"), looks := false }, kinds := [], alts := [], laidByText := true, laidKinds := [.listed, .data], laidTests := true, laidLooks := .later }
def FnRefineUptoCardSaid : Prop := Claim7.holds Tryd.pinned (.plain (OpenSpec.upto fnRefineSpec)) fnRefineUptoCard

/-- THE SECOND FORM's CARD OF 'laws.FnTruths'. -/
def fnTruthsUptoCard : Claim7 := { stood := { row := fnTruthsUptoRow, standIns := [], harness := (true, "159fb2ec1374a5127aa432ca2e3ac339fc6d2bfb29713546977a65ada0a97381"), looks := false }, kinds := [], alts := [], laidByText := true, laidKinds := [.listed, .data], laidTests := true, laidLooks := .later }
def FnTruthsUptoCardSaid : Prop := Claim7.holds Tryd.pinned (.plain (OpenSpec.upto fnTruthsSpec)) fnTruthsUptoCard
end Rows
end Go.Proofs.YthkdghnejfmhfaaDoor

/-
  DERIVED. GIVEN WITH THE SEED: THE CARDS: each row of YtfpoggllbhfdcaaGreatDoorRows.lean that lists a variable, with what it lists TIED to the program's text (the seventh form; the later family's looks); each row that meets fmt, with fmt's text TOLD by the authors' own Lean function (tested against real Go, not proved from fmt's source: count such statements apart). THE CARD IS WHAT COUNTS. Prove the row's statement (the work); the ties are given (YtfpoggllbhfdcaaGreatDoorTie.lean); close each card by the builder's one call (the guide's Derived/Test/ToyasCard.lean, 'card_holds'). Laid BY PROGRAM, IN A SANDBOX (cutbox-door.mjs). By AI agents, Wed Nov 11 2026. No macro, syntax, notation, axiom, sorry.
-/
import Derived.Test.YtfpoggllbhfdcaaGreatDoorRows
import GoSem.ClaimSeven
namespace Go.Proofs.YtfpoggllbhfdcaaGreatDoor
namespace Rows

/-- THE TIED CARD OF 'laws.FnExactEval'. -/
def fnExactEvalCard : Claim7 := { stood := { row := fnExactEvalRow, standIns := [], harness := (true, "4ee9dbe1342d7796670e0b473af4b102c2f8f62107fa53970c91359cc9f36462"), looks := false }, kinds := [], alts := [], laidByText := true, laidKinds := [.listed, .data], laidTests := true, laidLooks := .later }
def FnExactEvalCardSaid : Prop := Claim7.holds Tryz.pinned (.plain (OpenSpec.ofChange fnExactEvalSpec)) fnExactEvalCard

/-- THE TIED CARD OF 'laws.FnExactValOf'. -/
def fnExactValOfCard : Claim7 := { stood := { row := fnExactValOfRow, standIns := [], harness := (true, "4ee9dbe1342d7796670e0b473af4b102c2f8f62107fa53970c91359cc9f36462"), looks := false }, kinds := [], alts := [], laidByText := true, laidKinds := [.listed, .data], laidTests := true, laidLooks := .later }
def FnExactValOfCardSaid : Prop := Claim7.holds Tryz.pinned (.plain (OpenSpec.ofChange fnExactValOfSpec)) fnExactValOfCard

/-- THE SECOND FORM's CARD OF 'laws.FnExactEval'. -/
def fnExactEvalUptoCard : Claim7 := { stood := { row := fnExactEvalUptoRow, standIns := [], harness := (true, "4ee9dbe1342d7796670e0b473af4b102c2f8f62107fa53970c91359cc9f36462"), looks := false }, kinds := [], alts := [], laidByText := true, laidKinds := [.listed, .data], laidTests := true, laidLooks := .later }
def FnExactEvalUptoCardSaid : Prop := Claim7.holds Tryz.pinned (.plain (OpenSpec.upto fnExactEvalSpec)) fnExactEvalUptoCard

/-- THE SECOND FORM's CARD OF 'laws.FnExactValOf'. -/
def fnExactValOfUptoCard : Claim7 := { stood := { row := fnExactValOfUptoRow, standIns := [], harness := (true, "4ee9dbe1342d7796670e0b473af4b102c2f8f62107fa53970c91359cc9f36462"), looks := false }, kinds := [], alts := [], laidByText := true, laidKinds := [.listed, .data], laidTests := true, laidLooks := .later }
def FnExactValOfUptoCardSaid : Prop := Claim7.holds Tryz.pinned (.plain (OpenSpec.upto fnExactValOfSpec)) fnExactValOfUptoCard
end Rows
end Go.Proofs.YtfpoggllbhfdcaaGreatDoor

/-
  DERIVED. GIVEN WITH THE SEED: THE CARDS: each row of YtieoiccmlhjioabGreatDoorRows.lean that lists a variable, with what it lists TIED to the program's text (the seventh form; the later family's looks); each row that meets fmt, with fmt's text TOLD by the authors' own Lean function (tested against real Go, not proved from fmt's source: count such statements apart). THE CARD IS WHAT COUNTS. Prove the row's statement (the work); the ties are given (YtieoiccmlhjioabGreatDoorTie.lean); close each card by the builder's one call (the guide's Derived/Test/ToyasCard.lean, 'card_holds'). Laid BY PROGRAM, IN A SANDBOX (cutbox-door.mjs). By AI agents, Wed Nov 11 2026. No macro, syntax, notation, axiom, sorry.
-/
import Derived.Test.YtieoiccmlhjioabGreatDoorRows
import GoSem.ClaimSeven
namespace Go.Proofs.YtieoiccmlhjioabGreatDoor
namespace Rows

/-- THE TIED CARD OF 'laws.FnExactStart'. -/
def fnExactStartCard : Claim7 := { stood := { row := fnExactStartRow, standIns := [], harness := (true, "9ec2200515c5ab160429ca0720c58e0910e17edbee5416e34107a5c67bde9491"), looks := false }, kinds := [], alts := [], laidByText := true, laidKinds := [.listed, .data], laidTests := true, laidLooks := .later }
def FnExactStartCardSaid : Prop := Claim7.holds Tryz.pinned (.plain (OpenSpec.ofChange fnExactStartSpec)) fnExactStartCard

/-- THE TIED CARD OF 'laws.FnExactStepsOf'. -/
def fnExactStepsOfCard : Claim7 := { stood := { row := fnExactStepsOfRow, standIns := [], harness := (true, "9ec2200515c5ab160429ca0720c58e0910e17edbee5416e34107a5c67bde9491"), looks := false }, kinds := [], alts := [], laidByText := true, laidKinds := [.listed, .data], laidTests := true, laidLooks := .later }
def FnExactStepsOfCardSaid : Prop := Claim7.holds Tryz.pinned (.plain (OpenSpec.ofChange fnExactStepsOfSpec)) fnExactStepsOfCard

/-- THE SECOND FORM's CARD OF 'laws.FnExactStart'. -/
def fnExactStartUptoCard : Claim7 := { stood := { row := fnExactStartUptoRow, standIns := [], harness := (true, "9ec2200515c5ab160429ca0720c58e0910e17edbee5416e34107a5c67bde9491"), looks := false }, kinds := [], alts := [], laidByText := true, laidKinds := [.listed, .data], laidTests := true, laidLooks := .later }
def FnExactStartUptoCardSaid : Prop := Claim7.holds Tryz.pinned (.plain (OpenSpec.upto fnExactStartSpec)) fnExactStartUptoCard

/-- THE SECOND FORM's CARD OF 'laws.FnExactStepsOf'. -/
def fnExactStepsOfUptoCard : Claim7 := { stood := { row := fnExactStepsOfUptoRow, standIns := [], harness := (true, "9ec2200515c5ab160429ca0720c58e0910e17edbee5416e34107a5c67bde9491"), looks := false }, kinds := [], alts := [], laidByText := true, laidKinds := [.listed, .data], laidTests := true, laidLooks := .later }
def FnExactStepsOfUptoCardSaid : Prop := Claim7.holds Tryz.pinned (.plain (OpenSpec.upto fnExactStepsOfSpec)) fnExactStepsOfUptoCard
end Rows
end Go.Proofs.YtieoiccmlhjioabGreatDoor

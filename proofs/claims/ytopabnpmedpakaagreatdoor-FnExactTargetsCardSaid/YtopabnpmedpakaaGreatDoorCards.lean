/-
  DERIVED. GIVEN WITH THE SEED: THE CARDS: each row of YtopabnpmedpakaaGreatDoorRows.lean that lists a variable, with what it lists TIED to the program's text (the seventh form; the later family's looks); each row that meets fmt, with fmt's text TOLD by the authors' own Lean function (tested against real Go, not proved from fmt's source: count such statements apart). THE CARD IS WHAT COUNTS. Prove the row's statement (the work); the ties are given (YtopabnpmedpakaaGreatDoorTie.lean); close each card by the builder's one call (the guide's Derived/Test/ToyasCard.lean, 'card_holds'). Laid BY PROGRAM, IN A SANDBOX (cutbox-door.mjs). By AI agents, Wed Nov 11 2026. No macro, syntax, notation, axiom, sorry.
-/
import Derived.Test.YtopabnpmedpakaaGreatDoorRows
import GoSem.ClaimSeven
namespace Go.Proofs.YtopabnpmedpakaaGreatDoor
namespace Rows

/-- THE TIED CARD OF 'laws.FnExactTargets'. -/
def fnExactTargetsCard : Claim7 := { stood := { row := fnExactTargetsRow, standIns := [], harness := (true, "3b6b6b7e8abf682be5ccf1aba1d6eab0288f242edaf36269e3bb7284b742d5ae"), looks := false }, kinds := [], alts := [], laidByText := true, laidKinds := [.listed, .data], laidTests := true, laidLooks := .later }
def FnExactTargetsCardSaid : Prop := Claim7.holds Tryz.pinned (.plain (OpenSpec.ofChange fnExactTargetsSpec)) fnExactTargetsCard

/-- THE SECOND FORM's CARD OF 'laws.FnExactTargets'. -/
def fnExactTargetsUptoCard : Claim7 := { stood := { row := fnExactTargetsUptoRow, standIns := [], harness := (true, "3b6b6b7e8abf682be5ccf1aba1d6eab0288f242edaf36269e3bb7284b742d5ae"), looks := false }, kinds := [], alts := [], laidByText := true, laidKinds := [.listed, .data], laidTests := true, laidLooks := .later }
def FnExactTargetsUptoCardSaid : Prop := Claim7.holds Tryz.pinned (.plain (OpenSpec.upto fnExactTargetsSpec)) fnExactTargetsUptoCard
end Rows
end Go.Proofs.YtopabnpmedpakaaGreatDoor

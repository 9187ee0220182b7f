/-
  DERIVED. GIVEN WITH THE SEED: THE CARDS: each row of YtgpcioamhfaodaaGreatDoorRows.lean that lists a variable, with what it lists TIED to the program's text (the seventh form; the later family's looks); each row that meets fmt, with fmt's text TOLD by the authors' own Lean function (tested against real Go, not proved from fmt's source: count such statements apart). THE CARD IS WHAT COUNTS. Prove the row's statement (the work); the ties are given (YtgpcioamhfaodaaGreatDoorTie.lean); close each card by the builder's one call (the guide's Derived/Test/ToyasCard.lean, 'card_holds'). Laid BY PROGRAM, IN A SANDBOX (cutbox-door.mjs). By AI agents, Wed Nov 11 2026. No macro, syntax, notation, axiom, sorry.
-/
import Derived.Test.YtgpcioamhfaodaaGreatDoorRows
import GoSem.ClaimSeven
namespace Go.Proofs.YtgpcioamhfaodaaGreatDoor
namespace Rows

/-- THE TIED CARD OF 'laws.FnTableHas'. -/
def fnTableHasCard : Claim7 := { stood := { row := fnTableHasRow, standIns := [], harness := (true, "081d48ff05dc499571e9a19f0df0af4d3dd4c95258ef1b26277f4c7966b0529d"), looks := false }, kinds := [], alts := [], laidByText := true, laidKinds := [.listed, .data], laidTests := true, laidLooks := .later }
def FnTableHasCardSaid : Prop := Claim7.holds Tryz.pinned (.plain (OpenSpec.ofChange fnTableHasSpec)) fnTableHasCard

/-- THE SECOND FORM's CARD OF 'laws.FnTableHas'. -/
def fnTableHasUptoCard : Claim7 := { stood := { row := fnTableHasUptoRow, standIns := [], harness := (true, "081d48ff05dc499571e9a19f0df0af4d3dd4c95258ef1b26277f4c7966b0529d"), looks := false }, kinds := [], alts := [], laidByText := true, laidKinds := [.listed, .data], laidTests := true, laidLooks := .later }
def FnTableHasUptoCardSaid : Prop := Claim7.holds Tryz.pinned (.plain (OpenSpec.upto fnTableHasSpec)) fnTableHasUptoCard
end Rows
end Go.Proofs.YtgpcioamhfaodaaGreatDoor

/-
  DERIVED. GIVEN WITH THE SEED: THE CARDS: each row of YtimohcldmffcoaaDoorRows.lean that lists a variable, with what it lists TIED to the program's text (the seventh form; the later family's looks); each row that meets fmt, with fmt's text TOLD by the authors' own Lean function (tested against real Go, not proved from fmt's source: count such statements apart). THE CARD IS WHAT COUNTS. Prove the row's statement (the work); the ties are given (YtimohcldmffcoaaDoorTie.lean); close each card by the builder's one call (the guide's Derived/Test/ToyasCard.lean, 'card_holds'). Laid BY PROGRAM, IN A SANDBOX (cutbox-door.mjs). By AI agents, Wed Nov 11 2026. No macro, syntax, notation, axiom, sorry.
-/
import Derived.Test.YtimohcldmffcoaaDoorRows
import GoSem.ClaimSeven
namespace Go.Proofs.YtimohcldmffcoaaDoor
namespace Rows

/-- THE TIED CARD OF 'laws.FnExactEnvHas'. -/
def fnExactEnvHasCard : Claim7 := { stood := { row := fnExactEnvHasRow, standIns := [], harness := (true, "33f245d4b61461df448c38df2927c9105ef85abd439e2e76ba83fa6457a304b4"), looks := false }, kinds := [], alts := [], laidByText := true, laidKinds := [.listed, .data], laidTests := true, laidLooks := .later }
def FnExactEnvHasCardSaid : Prop := Claim7.holds Tryd.pinned (.plain (OpenSpec.ofChange fnExactEnvHasSpec)) fnExactEnvHasCard

/-- THE TIED CARD OF 'laws.FnExactTableJoin'. -/
def fnExactTableJoinCard : Claim7 := { stood := { row := fnExactTableJoinRow, standIns := [], harness := (true, "33f245d4b61461df448c38df2927c9105ef85abd439e2e76ba83fa6457a304b4"), looks := false }, kinds := [], alts := [], laidByText := true, laidKinds := [.listed, .data], laidTests := true, laidLooks := .later }
def FnExactTableJoinCardSaid : Prop := Claim7.holds Tryd.pinned (.plain (OpenSpec.ofChange fnExactTableJoinSpec)) fnExactTableJoinCard

/-- THE SECOND FORM's CARD OF 'laws.FnExactEnvHas'. -/
def fnExactEnvHasUptoCard : Claim7 := { stood := { row := fnExactEnvHasUptoRow, standIns := [], harness := (true, "33f245d4b61461df448c38df2927c9105ef85abd439e2e76ba83fa6457a304b4"), looks := false }, kinds := [], alts := [], laidByText := true, laidKinds := [.listed, .data], laidTests := true, laidLooks := .later }
def FnExactEnvHasUptoCardSaid : Prop := Claim7.holds Tryd.pinned (.plain (OpenSpec.upto fnExactEnvHasSpec)) fnExactEnvHasUptoCard

/-- THE SECOND FORM's CARD OF 'laws.FnExactTableJoin'. -/
def fnExactTableJoinUptoCard : Claim7 := { stood := { row := fnExactTableJoinUptoRow, standIns := [], harness := (true, "33f245d4b61461df448c38df2927c9105ef85abd439e2e76ba83fa6457a304b4"), looks := false }, kinds := [], alts := [], laidByText := true, laidKinds := [.listed, .data], laidTests := true, laidLooks := .later }
def FnExactTableJoinUptoCardSaid : Prop := Claim7.holds Tryd.pinned (.plain (OpenSpec.upto fnExactTableJoinSpec)) fnExactTableJoinUptoCard
end Rows
end Go.Proofs.YtimohcldmffcoaaDoor

/-
  DERIVED. GIVEN WITH THE SEED: THE CARDS: each row of YtimohcldmffcoaaGreatDoorRows.lean that lists a variable, with what it lists TIED to the program's text (the seventh form; the later family's looks); each row that meets fmt, with fmt's text TOLD by the authors' own Lean function (tested against real Go, not proved from fmt's source: count such statements apart). THE CARD IS WHAT COUNTS. Prove the row's statement (the work); the ties are given (YtimohcldmffcoaaGreatDoorTie.lean); close each card by the builder's one call (the guide's Derived/Test/ToyasCard.lean, 'card_holds'). Laid BY PROGRAM, IN A SANDBOX (cutbox-door.mjs). By AI agents, Wed Nov 11 2026. No macro, syntax, notation, axiom, sorry.
-/
import Derived.Test.YtimohcldmffcoaaGreatDoorRows
import GoSem.ClaimSeven
namespace Go.Proofs.YtimohcldmffcoaaGreatDoor
namespace Rows

/-- THE TIED CARD OF 'laws.FnExactTableHas'. -/
def fnExactTableHasCard : Claim7 := { stood := { row := fnExactTableHasRow, standIns := [], harness := (true, "3b986a6f3cb496b75a02b74ee050eff61d4fea7d70db359abd3b6b64fdbd3e9c"), looks := false }, kinds := [], alts := [], laidByText := true, laidKinds := [.listed, .data], laidTests := true, laidLooks := .later }
def FnExactTableHasCardSaid : Prop := Claim7.holds Tryz.pinned (.plain (OpenSpec.ofChange fnExactTableHasSpec)) fnExactTableHasCard

/-- THE TIED CARD OF 'laws.FnExactPartsOk'. -/
def fnExactPartsOkCard : Claim7 := { stood := { row := fnExactPartsOkRow, standIns := [], harness := (true, "3b986a6f3cb496b75a02b74ee050eff61d4fea7d70db359abd3b6b64fdbd3e9c"), looks := false }, kinds := [], alts := [], laidByText := true, laidKinds := [.listed, .data], laidTests := true, laidLooks := .later }
def FnExactPartsOkCardSaid : Prop := Claim7.holds Tryz.pinned (.plain (OpenSpec.ofChange fnExactPartsOkSpec)) fnExactPartsOkCard

/-- THE TIED CARD OF 'laws.FnExactTableWiden'. -/
def fnExactTableWidenCard : Claim7 := { stood := { row := fnExactTableWidenRow, standIns := [], harness := (true, "3b986a6f3cb496b75a02b74ee050eff61d4fea7d70db359abd3b6b64fdbd3e9c"), looks := false }, kinds := [], alts := [], laidByText := true, laidKinds := [.listed, .data], laidTests := true, laidLooks := .later }
def FnExactTableWidenCardSaid : Prop := Claim7.holds Tryz.pinned (.plain (OpenSpec.ofChange fnExactTableWidenSpec)) fnExactTableWidenCard

/-- THE TIED CARD OF 'laws.FnExactPartsLeq'. -/
def fnExactPartsLeqCard : Claim7 := { stood := { row := fnExactPartsLeqRow, standIns := [], harness := (true, "3b986a6f3cb496b75a02b74ee050eff61d4fea7d70db359abd3b6b64fdbd3e9c"), looks := false }, kinds := [], alts := [], laidByText := true, laidKinds := [.listed, .data], laidTests := true, laidLooks := .later }
def FnExactPartsLeqCardSaid : Prop := Claim7.holds Tryz.pinned (.plain (OpenSpec.ofChange fnExactPartsLeqSpec)) fnExactPartsLeqCard

/-- THE SECOND FORM's CARD OF 'laws.FnExactTableHas'. -/
def fnExactTableHasUptoCard : Claim7 := { stood := { row := fnExactTableHasUptoRow, standIns := [], harness := (true, "3b986a6f3cb496b75a02b74ee050eff61d4fea7d70db359abd3b6b64fdbd3e9c"), looks := false }, kinds := [], alts := [], laidByText := true, laidKinds := [.listed, .data], laidTests := true, laidLooks := .later }
def FnExactTableHasUptoCardSaid : Prop := Claim7.holds Tryz.pinned (.plain (OpenSpec.upto fnExactTableHasSpec)) fnExactTableHasUptoCard

/-- THE SECOND FORM's CARD OF 'laws.FnExactPartsOk'. -/
def fnExactPartsOkUptoCard : Claim7 := { stood := { row := fnExactPartsOkUptoRow, standIns := [], harness := (true, "3b986a6f3cb496b75a02b74ee050eff61d4fea7d70db359abd3b6b64fdbd3e9c"), looks := false }, kinds := [], alts := [], laidByText := true, laidKinds := [.listed, .data], laidTests := true, laidLooks := .later }
def FnExactPartsOkUptoCardSaid : Prop := Claim7.holds Tryz.pinned (.plain (OpenSpec.upto fnExactPartsOkSpec)) fnExactPartsOkUptoCard

/-- THE SECOND FORM's CARD OF 'laws.FnExactTableWiden'. -/
def fnExactTableWidenUptoCard : Claim7 := { stood := { row := fnExactTableWidenUptoRow, standIns := [], harness := (true, "3b986a6f3cb496b75a02b74ee050eff61d4fea7d70db359abd3b6b64fdbd3e9c"), looks := false }, kinds := [], alts := [], laidByText := true, laidKinds := [.listed, .data], laidTests := true, laidLooks := .later }
def FnExactTableWidenUptoCardSaid : Prop := Claim7.holds Tryz.pinned (.plain (OpenSpec.upto fnExactTableWidenSpec)) fnExactTableWidenUptoCard

/-- THE SECOND FORM's CARD OF 'laws.FnExactPartsLeq'. -/
def fnExactPartsLeqUptoCard : Claim7 := { stood := { row := fnExactPartsLeqUptoRow, standIns := [], harness := (true, "3b986a6f3cb496b75a02b74ee050eff61d4fea7d70db359abd3b6b64fdbd3e9c"), looks := false }, kinds := [], alts := [], laidByText := true, laidKinds := [.listed, .data], laidTests := true, laidLooks := .later }
def FnExactPartsLeqUptoCardSaid : Prop := Claim7.holds Tryz.pinned (.plain (OpenSpec.upto fnExactPartsLeqSpec)) fnExactPartsLeqUptoCard
end Rows
end Go.Proofs.YtimohcldmffcoaaGreatDoor

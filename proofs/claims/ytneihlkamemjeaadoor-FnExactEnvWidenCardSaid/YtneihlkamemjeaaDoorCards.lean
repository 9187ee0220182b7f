/-
  DERIVED. GIVEN WITH THE SEED: THE CARDS: each row of YtneihlkamemjeaaDoorRows.lean that lists a variable, with what it lists TIED to the program's text (the seventh form; the later family's looks); each row that meets fmt, with fmt's text TOLD by the authors' own Lean function (tested against real Go, not proved from fmt's source: count such statements apart). THE CARD IS WHAT COUNTS. Prove the row's statement (the work); the ties are given (YtneihlkamemjeaaDoorTie.lean); close each card by the builder's one call (the guide's Derived/Test/ToyasCard.lean, 'card_holds'). Laid BY PROGRAM, IN A SANDBOX (cutbox-door.mjs). By AI agents, Wed Nov 11 2026. No macro, syntax, notation, axiom, sorry.
-/
import Derived.Test.YtneihlkamemjeaaDoorRows
import GoSem.ClaimSeven
namespace Go.Proofs.YtneihlkamemjeaaDoor
namespace Rows

/-- THE TIED CARD OF 'laws.FnEnvWiden'. -/
def fnEnvWidenCard : Claim7 := { stood := { row := fnEnvWidenRow, standIns := [], harness := (true, "0dd61797e7d49492e132c57d16a3d709a6771abb06009b90475a6bbfabf92419"), looks := false }, kinds := [], alts := [], laidByText := true, laidKinds := [.listed, .data], laidTests := true, laidLooks := .later }
def FnEnvWidenCardSaid : Prop := Claim7.holds Tryd.pinned (.plain (OpenSpec.ofChange fnEnvWidenSpec)) fnEnvWidenCard

/-- THE TIED CARD OF 'laws.FnPut'. -/
def fnPutCard : Claim7 := { stood := { row := fnPutRow, standIns := [], harness := (true, "0dd61797e7d49492e132c57d16a3d709a6771abb06009b90475a6bbfabf92419"), looks := false }, kinds := [], alts := [], laidByText := true, laidKinds := [.listed, .data], laidTests := true, laidLooks := .later }
def FnPutCardSaid : Prop := Claim7.holds Tryd.pinned (.plain (OpenSpec.ofChange fnPutSpec)) fnPutCard

/-- THE TIED CARD OF 'laws.FnExactEnvPut'. -/
def fnExactEnvPutCard : Claim7 := { stood := { row := fnExactEnvPutRow, standIns := [], harness := (true, "0dd61797e7d49492e132c57d16a3d709a6771abb06009b90475a6bbfabf92419"), looks := false }, kinds := [], alts := [], laidByText := true, laidKinds := [.listed, .data], laidTests := true, laidLooks := .later }
def FnExactEnvPutCardSaid : Prop := Claim7.holds Tryd.pinned (.plain (OpenSpec.ofChange fnExactEnvPutSpec)) fnExactEnvPutCard

/-- THE TIED CARD OF 'laws.FnExactEnvWiden'. -/
def fnExactEnvWidenCard : Claim7 := { stood := { row := fnExactEnvWidenRow, standIns := [], harness := (true, "0dd61797e7d49492e132c57d16a3d709a6771abb06009b90475a6bbfabf92419"), looks := false }, kinds := [], alts := [], laidByText := true, laidKinds := [.listed, .data], laidTests := true, laidLooks := .later }
def FnExactEnvWidenCardSaid : Prop := Claim7.holds Tryd.pinned (.plain (OpenSpec.ofChange fnExactEnvWidenSpec)) fnExactEnvWidenCard

/-- THE TIED CARD OF 'laws.FnExactExprText'. -/
def fnExactExprTextCard : Claim7 := { stood := { row := fnExactExprTextRow, standIns := [], harness := (true, "0dd61797e7d49492e132c57d16a3d709a6771abb06009b90475a6bbfabf92419"), looks := false }, kinds := [], alts := [], laidByText := true, laidKinds := [.data, .data, .data, .listed, .data], laidTests := true, laidLooks := .later }
def FnExactExprTextCardSaid : Prop := Claim7.holds Tryd.pinned (.plain (OpenSpec.ofChange fnExactExprTextSpec)) fnExactExprTextCard

/-- THE SECOND FORM's CARD OF 'laws.FnEnvWiden'. -/
def fnEnvWidenUptoCard : Claim7 := { stood := { row := fnEnvWidenUptoRow, standIns := [], harness := (true, "0dd61797e7d49492e132c57d16a3d709a6771abb06009b90475a6bbfabf92419"), looks := false }, kinds := [], alts := [], laidByText := true, laidKinds := [.listed, .data], laidTests := true, laidLooks := .later }
def FnEnvWidenUptoCardSaid : Prop := Claim7.holds Tryd.pinned (.plain (OpenSpec.upto fnEnvWidenSpec)) fnEnvWidenUptoCard

/-- THE SECOND FORM's CARD OF 'laws.FnPut'. -/
def fnPutUptoCard : Claim7 := { stood := { row := fnPutUptoRow, standIns := [], harness := (true, "0dd61797e7d49492e132c57d16a3d709a6771abb06009b90475a6bbfabf92419"), looks := false }, kinds := [], alts := [], laidByText := true, laidKinds := [.listed, .data], laidTests := true, laidLooks := .later }
def FnPutUptoCardSaid : Prop := Claim7.holds Tryd.pinned (.plain (OpenSpec.upto fnPutSpec)) fnPutUptoCard

/-- THE SECOND FORM's CARD OF 'laws.FnExactEnvPut'. -/
def fnExactEnvPutUptoCard : Claim7 := { stood := { row := fnExactEnvPutUptoRow, standIns := [], harness := (true, "0dd61797e7d49492e132c57d16a3d709a6771abb06009b90475a6bbfabf92419"), looks := false }, kinds := [], alts := [], laidByText := true, laidKinds := [.listed, .data], laidTests := true, laidLooks := .later }
def FnExactEnvPutUptoCardSaid : Prop := Claim7.holds Tryd.pinned (.plain (OpenSpec.upto fnExactEnvPutSpec)) fnExactEnvPutUptoCard

/-- THE SECOND FORM's CARD OF 'laws.FnExactEnvWiden'. -/
def fnExactEnvWidenUptoCard : Claim7 := { stood := { row := fnExactEnvWidenUptoRow, standIns := [], harness := (true, "0dd61797e7d49492e132c57d16a3d709a6771abb06009b90475a6bbfabf92419"), looks := false }, kinds := [], alts := [], laidByText := true, laidKinds := [.listed, .data], laidTests := true, laidLooks := .later }
def FnExactEnvWidenUptoCardSaid : Prop := Claim7.holds Tryd.pinned (.plain (OpenSpec.upto fnExactEnvWidenSpec)) fnExactEnvWidenUptoCard

/-- THE SECOND FORM's CARD OF 'laws.FnExactExprText'. -/
def fnExactExprTextUptoCard : Claim7 := { stood := { row := fnExactExprTextUptoRow, standIns := [], harness := (true, "0dd61797e7d49492e132c57d16a3d709a6771abb06009b90475a6bbfabf92419"), looks := false }, kinds := [], alts := [], laidByText := true, laidKinds := [.data, .data, .data, .listed, .data], laidTests := true, laidLooks := .later }
def FnExactExprTextUptoCardSaid : Prop := Claim7.holds Tryd.pinned (.plain (OpenSpec.upto fnExactExprTextSpec)) fnExactExprTextUptoCard
end Rows
end Go.Proofs.YtneihlkamemjeaaDoor

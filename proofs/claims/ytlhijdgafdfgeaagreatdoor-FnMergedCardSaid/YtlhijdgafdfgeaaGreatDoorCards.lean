/-
  DERIVED. GIVEN WITH THE SEED: THE CARDS: each row of YtlhijdgafdfgeaaGreatDoorRows.lean that lists a variable, with what it lists TIED to the program's text (the seventh form; the later family's looks); each row that meets fmt, with fmt's text TOLD by the authors' own Lean function (tested against real Go, not proved from fmt's source: count such statements apart). THE CARD IS WHAT COUNTS. Prove the row's statement (the work); the ties are given (YtlhijdgafdfgeaaGreatDoorTie.lean); close each card by the builder's one call (the guide's Derived/Test/ToyasCard.lean, 'card_holds'). Laid BY PROGRAM, IN A SANDBOX (cutbox-door.mjs). By AI agents, Wed Nov 11 2026. No macro, syntax, notation, axiom, sorry.
-/
import Derived.Test.YtlhijdgafdfgeaaGreatDoorRows
import GoSem.ClaimSeven
namespace Go.Proofs.YtlhijdgafdfgeaaGreatDoor
namespace Rows

/-- THE TIED CARD OF 'laws.FnExactPartsMerged'. -/
def fnExactPartsMergedCard : Claim7 := { stood := { row := fnExactPartsMergedRow, standIns := [], harness := (true, "52c8aac3cca39fb9552222ff15075b1ac1efa4c8b1bd2ed7e36dd73ab8568af5"), looks := false }, kinds := [], alts := [], laidByText := true, laidKinds := [.listed, .data], laidTests := true, laidLooks := .later }
def FnExactPartsMergedCardSaid : Prop := Claim7.holds Tryz.pinned (.plain (OpenSpec.ofChange fnExactPartsMergedSpec)) fnExactPartsMergedCard

/-- THE TIED CARD OF 'laws.FnMerged'. -/
def fnMergedCard : Claim7 := { stood := { row := fnMergedRow, standIns := [], harness := (true, "52c8aac3cca39fb9552222ff15075b1ac1efa4c8b1bd2ed7e36dd73ab8568af5"), looks := false }, kinds := [], alts := [], laidByText := true, laidKinds := [.listed, .data], laidTests := true, laidLooks := .later }
def FnMergedCardSaid : Prop := Claim7.holds Tryz.pinned (.plain (OpenSpec.ofChange fnMergedSpec)) fnMergedCard

/-- THE SECOND FORM's CARD OF 'laws.FnExactPartsMerged'. -/
def fnExactPartsMergedUptoCard : Claim7 := { stood := { row := fnExactPartsMergedUptoRow, standIns := [], harness := (true, "52c8aac3cca39fb9552222ff15075b1ac1efa4c8b1bd2ed7e36dd73ab8568af5"), looks := false }, kinds := [], alts := [], laidByText := true, laidKinds := [.listed, .data], laidTests := true, laidLooks := .later }
def FnExactPartsMergedUptoCardSaid : Prop := Claim7.holds Tryz.pinned (.plain (OpenSpec.upto fnExactPartsMergedSpec)) fnExactPartsMergedUptoCard

/-- THE SECOND FORM's CARD OF 'laws.FnMerged'. -/
def fnMergedUptoCard : Claim7 := { stood := { row := fnMergedUptoRow, standIns := [], harness := (true, "52c8aac3cca39fb9552222ff15075b1ac1efa4c8b1bd2ed7e36dd73ab8568af5"), looks := false }, kinds := [], alts := [], laidByText := true, laidKinds := [.listed, .data], laidTests := true, laidLooks := .later }
def FnMergedUptoCardSaid : Prop := Claim7.holds Tryz.pinned (.plain (OpenSpec.upto fnMergedSpec)) fnMergedUptoCard
end Rows
end Go.Proofs.YtlhijdgafdfgeaaGreatDoor

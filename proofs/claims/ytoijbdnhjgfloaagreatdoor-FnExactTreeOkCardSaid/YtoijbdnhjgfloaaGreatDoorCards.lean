/-
  DERIVED. GIVEN WITH THE SEED: THE CARDS: each row of YtoijbdnhjgfloaaGreatDoorRows.lean that lists a variable, with what it lists TIED to the program's text (the seventh form; the later family's looks); each row that meets fmt, with fmt's text TOLD by the authors' own Lean function (tested against real Go, not proved from fmt's source: count such statements apart). THE CARD IS WHAT COUNTS. Prove the row's statement (the work); the ties are given (YtoijbdnhjgfloaaGreatDoorTie.lean); close each card by the builder's one call (the guide's Derived/Test/ToyasCard.lean, 'card_holds'). Laid BY PROGRAM, IN A SANDBOX (cutbox-door.mjs). By AI agents, Wed Nov 11 2026. No macro, syntax, notation, axiom, sorry.
-/
import Derived.Test.YtoijbdnhjgfloaaGreatDoorRows
import GoSem.ClaimSeven
namespace Go.Proofs.YtoijbdnhjgfloaaGreatDoor
namespace Rows

/-- THE TIED CARD OF 'laws.FnExactTreeOk'. -/
def fnExactTreeOkCard : Claim7 := { stood := { row := fnExactTreeOkRow, standIns := [], harness := (true, "5e7c4cf0a7f39b90116ec999703479c1df024dc556c90020ff23dfd3ded6cd7c"), looks := false }, kinds := [], alts := [], laidByText := true, laidKinds := [.listed, .data], laidTests := true, laidLooks := .later }
def FnExactTreeOkCardSaid : Prop := Claim7.holds Tryz.pinned (.plain (OpenSpec.ofChange fnExactTreeOkSpec)) fnExactTreeOkCard

/-- THE TIED CARD OF 'laws.FnExactTreeOf'. -/
def fnExactTreeOfCard : Claim7 := { stood := { row := fnExactTreeOfRow, standIns := [], harness := (true, "5e7c4cf0a7f39b90116ec999703479c1df024dc556c90020ff23dfd3ded6cd7c"), looks := false }, kinds := [], alts := [], laidByText := true, laidKinds := [.listed, .data], laidTests := true, laidLooks := .later }
def FnExactTreeOfCardSaid : Prop := Claim7.holds Tryz.pinned (.plain (OpenSpec.ofChange fnExactTreeOfSpec)) fnExactTreeOfCard

/-- THE TIED CARD OF 'laws.FnExactLeaves'. -/
def fnExactLeavesCard : Claim7 := { stood := { row := fnExactLeavesRow, standIns := [], harness := (true, "5e7c4cf0a7f39b90116ec999703479c1df024dc556c90020ff23dfd3ded6cd7c"), looks := false }, kinds := [], alts := [], laidByText := true, laidKinds := [.listed, .data], laidTests := true, laidLooks := .later }
def FnExactLeavesCardSaid : Prop := Claim7.holds Tryz.pinned (.plain (OpenSpec.ofChange fnExactLeavesSpec)) fnExactLeavesCard

/-- THE TIED CARD OF 'laws.FnExactPartsLeq'. -/
def fnExactPartsLeqCard : Claim7 := { stood := { row := fnExactPartsLeqRow, standIns := [], harness := (true, "5e7c4cf0a7f39b90116ec999703479c1df024dc556c90020ff23dfd3ded6cd7c"), looks := false }, kinds := [], alts := [], laidByText := true, laidKinds := [.listed, .data], laidTests := true, laidLooks := .later }
def FnExactPartsLeqCardSaid : Prop := Claim7.holds Tryz.pinned (.plain (OpenSpec.ofChange fnExactPartsLeqSpec)) fnExactPartsLeqCard

/-- THE TIED CARD OF 'laws.FnExactTableOf'. -/
def fnExactTableOfCard : Claim7 := { stood := { row := fnExactTableOfRow, standIns := [], harness := (true, "5e7c4cf0a7f39b90116ec999703479c1df024dc556c90020ff23dfd3ded6cd7c"), looks := false }, kinds := [], alts := [], laidByText := true, laidKinds := [.listed, .data], laidTests := true, laidLooks := .later }
def FnExactTableOfCardSaid : Prop := Claim7.holds Tryz.pinned (.plain (OpenSpec.ofChange fnExactTableOfSpec)) fnExactTableOfCard

/-- THE TIED CARD OF 'laws.FnExactPartsHas'. -/
def fnExactPartsHasCard : Claim7 := { stood := { row := fnExactPartsHasRow, standIns := [], harness := (true, "5e7c4cf0a7f39b90116ec999703479c1df024dc556c90020ff23dfd3ded6cd7c"), looks := false }, kinds := [], alts := [], laidByText := true, laidKinds := [.listed, .data], laidTests := true, laidLooks := .later }
def FnExactPartsHasCardSaid : Prop := Claim7.holds Tryz.pinned (.plain (OpenSpec.ofChange fnExactPartsHasSpec)) fnExactPartsHasCard

/-- THE TIED CARD OF 'laws.FnExactPartsMerged'. -/
def fnExactPartsMergedCard : Claim7 := { stood := { row := fnExactPartsMergedRow, standIns := [], harness := (true, "5e7c4cf0a7f39b90116ec999703479c1df024dc556c90020ff23dfd3ded6cd7c"), looks := false }, kinds := [], alts := [], laidByText := true, laidKinds := [.listed, .data], laidTests := true, laidLooks := .later }
def FnExactPartsMergedCardSaid : Prop := Claim7.holds Tryz.pinned (.plain (OpenSpec.ofChange fnExactPartsMergedSpec)) fnExactPartsMergedCard

/-- THE TIED CARD OF 'laws.FnExactPartsJoin'. -/
def fnExactPartsJoinCard : Claim7 := { stood := { row := fnExactPartsJoinRow, standIns := [], harness := (true, "5e7c4cf0a7f39b90116ec999703479c1df024dc556c90020ff23dfd3ded6cd7c"), looks := false }, kinds := [], alts := [], laidByText := true, laidKinds := [.listed, .data], laidTests := true, laidLooks := .later }
def FnExactPartsJoinCardSaid : Prop := Claim7.holds Tryz.pinned (.plain (OpenSpec.ofChange fnExactPartsJoinSpec)) fnExactPartsJoinCard

/-- THE TIED CARD OF 'laws.FnExactPartsWiden'. -/
def fnExactPartsWidenCard : Claim7 := { stood := { row := fnExactPartsWidenRow, standIns := [], harness := (true, "5e7c4cf0a7f39b90116ec999703479c1df024dc556c90020ff23dfd3ded6cd7c"), looks := false }, kinds := [], alts := [], laidByText := true, laidKinds := [.listed, .data], laidTests := true, laidLooks := .later }
def FnExactPartsWidenCardSaid : Prop := Claim7.holds Tryz.pinned (.plain (OpenSpec.ofChange fnExactPartsWidenSpec)) fnExactPartsWidenCard

/-- THE SECOND FORM's CARD OF 'laws.FnExactTreeOk'. -/
def fnExactTreeOkUptoCard : Claim7 := { stood := { row := fnExactTreeOkUptoRow, standIns := [], harness := (true, "5e7c4cf0a7f39b90116ec999703479c1df024dc556c90020ff23dfd3ded6cd7c"), looks := false }, kinds := [], alts := [], laidByText := true, laidKinds := [.listed, .data], laidTests := true, laidLooks := .later }
def FnExactTreeOkUptoCardSaid : Prop := Claim7.holds Tryz.pinned (.plain (OpenSpec.upto fnExactTreeOkSpec)) fnExactTreeOkUptoCard

/-- THE SECOND FORM's CARD OF 'laws.FnExactTreeOf'. -/
def fnExactTreeOfUptoCard : Claim7 := { stood := { row := fnExactTreeOfUptoRow, standIns := [], harness := (true, "5e7c4cf0a7f39b90116ec999703479c1df024dc556c90020ff23dfd3ded6cd7c"), looks := false }, kinds := [], alts := [], laidByText := true, laidKinds := [.listed, .data], laidTests := true, laidLooks := .later }
def FnExactTreeOfUptoCardSaid : Prop := Claim7.holds Tryz.pinned (.plain (OpenSpec.upto fnExactTreeOfSpec)) fnExactTreeOfUptoCard

/-- THE SECOND FORM's CARD OF 'laws.FnExactLeaves'. -/
def fnExactLeavesUptoCard : Claim7 := { stood := { row := fnExactLeavesUptoRow, standIns := [], harness := (true, "5e7c4cf0a7f39b90116ec999703479c1df024dc556c90020ff23dfd3ded6cd7c"), looks := false }, kinds := [], alts := [], laidByText := true, laidKinds := [.listed, .data], laidTests := true, laidLooks := .later }
def FnExactLeavesUptoCardSaid : Prop := Claim7.holds Tryz.pinned (.plain (OpenSpec.upto fnExactLeavesSpec)) fnExactLeavesUptoCard

/-- THE SECOND FORM's CARD OF 'laws.FnExactPartsLeq'. -/
def fnExactPartsLeqUptoCard : Claim7 := { stood := { row := fnExactPartsLeqUptoRow, standIns := [], harness := (true, "5e7c4cf0a7f39b90116ec999703479c1df024dc556c90020ff23dfd3ded6cd7c"), looks := false }, kinds := [], alts := [], laidByText := true, laidKinds := [.listed, .data], laidTests := true, laidLooks := .later }
def FnExactPartsLeqUptoCardSaid : Prop := Claim7.holds Tryz.pinned (.plain (OpenSpec.upto fnExactPartsLeqSpec)) fnExactPartsLeqUptoCard

/-- THE SECOND FORM's CARD OF 'laws.FnExactTableOf'. -/
def fnExactTableOfUptoCard : Claim7 := { stood := { row := fnExactTableOfUptoRow, standIns := [], harness := (true, "5e7c4cf0a7f39b90116ec999703479c1df024dc556c90020ff23dfd3ded6cd7c"), looks := false }, kinds := [], alts := [], laidByText := true, laidKinds := [.listed, .data], laidTests := true, laidLooks := .later }
def FnExactTableOfUptoCardSaid : Prop := Claim7.holds Tryz.pinned (.plain (OpenSpec.upto fnExactTableOfSpec)) fnExactTableOfUptoCard

/-- THE SECOND FORM's CARD OF 'laws.FnExactPartsHas'. -/
def fnExactPartsHasUptoCard : Claim7 := { stood := { row := fnExactPartsHasUptoRow, standIns := [], harness := (true, "5e7c4cf0a7f39b90116ec999703479c1df024dc556c90020ff23dfd3ded6cd7c"), looks := false }, kinds := [], alts := [], laidByText := true, laidKinds := [.listed, .data], laidTests := true, laidLooks := .later }
def FnExactPartsHasUptoCardSaid : Prop := Claim7.holds Tryz.pinned (.plain (OpenSpec.upto fnExactPartsHasSpec)) fnExactPartsHasUptoCard

/-- THE SECOND FORM's CARD OF 'laws.FnExactPartsMerged'. -/
def fnExactPartsMergedUptoCard : Claim7 := { stood := { row := fnExactPartsMergedUptoRow, standIns := [], harness := (true, "5e7c4cf0a7f39b90116ec999703479c1df024dc556c90020ff23dfd3ded6cd7c"), looks := false }, kinds := [], alts := [], laidByText := true, laidKinds := [.listed, .data], laidTests := true, laidLooks := .later }
def FnExactPartsMergedUptoCardSaid : Prop := Claim7.holds Tryz.pinned (.plain (OpenSpec.upto fnExactPartsMergedSpec)) fnExactPartsMergedUptoCard

/-- THE SECOND FORM's CARD OF 'laws.FnExactPartsJoin'. -/
def fnExactPartsJoinUptoCard : Claim7 := { stood := { row := fnExactPartsJoinUptoRow, standIns := [], harness := (true, "5e7c4cf0a7f39b90116ec999703479c1df024dc556c90020ff23dfd3ded6cd7c"), looks := false }, kinds := [], alts := [], laidByText := true, laidKinds := [.listed, .data], laidTests := true, laidLooks := .later }
def FnExactPartsJoinUptoCardSaid : Prop := Claim7.holds Tryz.pinned (.plain (OpenSpec.upto fnExactPartsJoinSpec)) fnExactPartsJoinUptoCard

/-- THE SECOND FORM's CARD OF 'laws.FnExactPartsWiden'. -/
def fnExactPartsWidenUptoCard : Claim7 := { stood := { row := fnExactPartsWidenUptoRow, standIns := [], harness := (true, "5e7c4cf0a7f39b90116ec999703479c1df024dc556c90020ff23dfd3ded6cd7c"), looks := false }, kinds := [], alts := [], laidByText := true, laidKinds := [.listed, .data], laidTests := true, laidLooks := .later }
def FnExactPartsWidenUptoCardSaid : Prop := Claim7.holds Tryz.pinned (.plain (OpenSpec.upto fnExactPartsWidenSpec)) fnExactPartsWidenUptoCard
end Rows
end Go.Proofs.YtoijbdnhjgfloaaGreatDoor

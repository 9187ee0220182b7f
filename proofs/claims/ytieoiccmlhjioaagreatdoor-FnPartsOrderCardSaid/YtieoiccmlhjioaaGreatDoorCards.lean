/-
  DERIVED. GIVEN WITH THE SEED: THE CARDS: each row of YtieoiccmlhjioaaGreatDoorRows.lean that lists a variable, with what it lists TIED to the program's text (the seventh form; the later family's looks); each row that meets fmt, with fmt's text TOLD by the authors' own Lean function (tested against real Go, not proved from fmt's source: count such statements apart). THE CARD IS WHAT COUNTS. Prove the row's statement (the work); the ties are given (YtieoiccmlhjioaaGreatDoorTie.lean); close each card by the builder's one call (the guide's Derived/Test/ToyasCard.lean, 'card_holds'). Laid BY PROGRAM, IN A SANDBOX (cutbox-door.mjs). By AI agents, Wed Nov 11 2026. No macro, syntax, notation, axiom, sorry.
-/
import Derived.Test.YtieoiccmlhjioaaGreatDoorRows
import GoSem.ClaimSeven
namespace Go.Proofs.YtieoiccmlhjioaaGreatDoor
namespace Rows

/-- THE TIED CARD OF 'laws.FnExactPartsJoin'. -/
def fnExactPartsJoinCard : Claim7 := { stood := { row := fnExactPartsJoinRow, standIns := [], harness := (true, "3196af224de53f05c08a782a30692c9e9ebf0812c89e838b2769367ca751ce33"), looks := false }, kinds := [], alts := [], laidByText := true, laidKinds := [.listed, .data], laidTests := true, laidLooks := .later }
def FnExactPartsJoinCardSaid : Prop := Claim7.holds Tryz.pinned (.plain (OpenSpec.ofChange fnExactPartsJoinSpec)) fnExactPartsJoinCard

/-- THE TIED CARD OF 'laws.FnExactPartsWiden'. -/
def fnExactPartsWidenCard : Claim7 := { stood := { row := fnExactPartsWidenRow, standIns := [], harness := (true, "3196af224de53f05c08a782a30692c9e9ebf0812c89e838b2769367ca751ce33"), looks := false }, kinds := [], alts := [], laidByText := true, laidKinds := [.listed, .data], laidTests := true, laidLooks := .later }
def FnExactPartsWidenCardSaid : Prop := Claim7.holds Tryz.pinned (.plain (OpenSpec.ofChange fnExactPartsWidenSpec)) fnExactPartsWidenCard

/-- THE TIED CARD OF 'laws.FnPartsHas'. -/
def fnPartsHasCard : Claim7 := { stood := { row := fnPartsHasRow, standIns := [], harness := (true, "3196af224de53f05c08a782a30692c9e9ebf0812c89e838b2769367ca751ce33"), looks := false }, kinds := [], alts := [], laidByText := true, laidKinds := [.listed, .data], laidTests := true, laidLooks := .later }
def FnPartsHasCardSaid : Prop := Claim7.holds Tryz.pinned (.plain (OpenSpec.ofChange fnPartsHasSpec)) fnPartsHasCard

/-- THE TIED CARD OF 'laws.FnPartsOrder'. -/
def fnPartsOrderCard : Claim7 := { stood := { row := fnPartsOrderRow, standIns := [], harness := (true, "3196af224de53f05c08a782a30692c9e9ebf0812c89e838b2769367ca751ce33"), looks := false }, kinds := [], alts := [], laidByText := true, laidKinds := [.listed, .data], laidTests := true, laidLooks := .later }
def FnPartsOrderCardSaid : Prop := Claim7.holds Tryz.pinned (.plain (OpenSpec.ofChange fnPartsOrderSpec)) fnPartsOrderCard

/-- THE SECOND FORM's CARD OF 'laws.FnExactPartsJoin'. -/
def fnExactPartsJoinUptoCard : Claim7 := { stood := { row := fnExactPartsJoinUptoRow, standIns := [], harness := (true, "3196af224de53f05c08a782a30692c9e9ebf0812c89e838b2769367ca751ce33"), looks := false }, kinds := [], alts := [], laidByText := true, laidKinds := [.listed, .data], laidTests := true, laidLooks := .later }
def FnExactPartsJoinUptoCardSaid : Prop := Claim7.holds Tryz.pinned (.plain (OpenSpec.upto fnExactPartsJoinSpec)) fnExactPartsJoinUptoCard

/-- THE SECOND FORM's CARD OF 'laws.FnExactPartsWiden'. -/
def fnExactPartsWidenUptoCard : Claim7 := { stood := { row := fnExactPartsWidenUptoRow, standIns := [], harness := (true, "3196af224de53f05c08a782a30692c9e9ebf0812c89e838b2769367ca751ce33"), looks := false }, kinds := [], alts := [], laidByText := true, laidKinds := [.listed, .data], laidTests := true, laidLooks := .later }
def FnExactPartsWidenUptoCardSaid : Prop := Claim7.holds Tryz.pinned (.plain (OpenSpec.upto fnExactPartsWidenSpec)) fnExactPartsWidenUptoCard

/-- THE SECOND FORM's CARD OF 'laws.FnPartsHas'. -/
def fnPartsHasUptoCard : Claim7 := { stood := { row := fnPartsHasUptoRow, standIns := [], harness := (true, "3196af224de53f05c08a782a30692c9e9ebf0812c89e838b2769367ca751ce33"), looks := false }, kinds := [], alts := [], laidByText := true, laidKinds := [.listed, .data], laidTests := true, laidLooks := .later }
def FnPartsHasUptoCardSaid : Prop := Claim7.holds Tryz.pinned (.plain (OpenSpec.upto fnPartsHasSpec)) fnPartsHasUptoCard

/-- THE SECOND FORM's CARD OF 'laws.FnPartsOrder'. -/
def fnPartsOrderUptoCard : Claim7 := { stood := { row := fnPartsOrderUptoRow, standIns := [], harness := (true, "3196af224de53f05c08a782a30692c9e9ebf0812c89e838b2769367ca751ce33"), looks := false }, kinds := [], alts := [], laidByText := true, laidKinds := [.listed, .data], laidTests := true, laidLooks := .later }
def FnPartsOrderUptoCardSaid : Prop := Claim7.holds Tryz.pinned (.plain (OpenSpec.upto fnPartsOrderSpec)) fnPartsOrderUptoCard
end Rows
end Go.Proofs.YtieoiccmlhjioaaGreatDoor

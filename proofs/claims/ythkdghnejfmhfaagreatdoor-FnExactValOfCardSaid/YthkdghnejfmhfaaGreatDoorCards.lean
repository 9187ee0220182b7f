/-
  DERIVED. GIVEN WITH THE SEED: THE CARDS: each row of YthkdghnejfmhfaaGreatDoorRows.lean that lists a variable, with what it lists TIED to the program's text (the seventh form; the later family's looks); each row that meets fmt, with fmt's text TOLD by the authors' own Lean function (tested against real Go, not proved from fmt's source: count such statements apart). THE CARD IS WHAT COUNTS. Prove the row's statement (the work); the ties are given (YthkdghnejfmhfaaGreatDoorTie.lean); close each card by the builder's one call (the guide's Derived/Test/ToyasCard.lean, 'card_holds'). Laid BY PROGRAM, IN A SANDBOX (cutbox-door.mjs). By AI agents, Wed Nov 11 2026. No macro, syntax, notation, axiom, sorry.
-/
import Derived.Test.YthkdghnejfmhfaaGreatDoorRows
import GoSem.ClaimSeven
namespace Go.Proofs.YthkdghnejfmhfaaGreatDoor
namespace Rows

/-- THE TIED CARD OF 'laws.FnExactValOf'. -/
def fnExactValOfCard : Claim7 := { stood := { row := fnExactValOfRow, standIns := [], harness := (true, "df949bef645c9d5a609ce6dccf8956a06afcfc439159fbc7cd73d3dcf58944d3"), looks := false }, kinds := [], alts := [], laidByText := true, laidKinds := [.listed, .data], laidTests := true, laidLooks := .later }
def FnExactValOfCardSaid : Prop := Claim7.holds Tryz.pinned (.plain (OpenSpec.ofChange fnExactValOfSpec)) fnExactValOfCard

/-- THE TIED CARD OF 'laws.FnValSound'. -/
def fnValSoundCard : Claim7 := { stood := { row := fnValSoundRow, standIns := [], harness := (true, "df949bef645c9d5a609ce6dccf8956a06afcfc439159fbc7cd73d3dcf58944d3"), looks := false }, kinds := [], alts := [], laidByText := true, laidKinds := [.listed, .data], laidTests := true, laidLooks := .later }
def FnValSoundCardSaid : Prop := Claim7.holds Tryz.pinned (.plain (OpenSpec.ofChange fnValSoundSpec)) fnValSoundCard

/-- THE SECOND FORM's CARD OF 'laws.FnExactValOf'. -/
def fnExactValOfUptoCard : Claim7 := { stood := { row := fnExactValOfUptoRow, standIns := [], harness := (true, "df949bef645c9d5a609ce6dccf8956a06afcfc439159fbc7cd73d3dcf58944d3"), looks := false }, kinds := [], alts := [], laidByText := true, laidKinds := [.listed, .data], laidTests := true, laidLooks := .later }
def FnExactValOfUptoCardSaid : Prop := Claim7.holds Tryz.pinned (.plain (OpenSpec.upto fnExactValOfSpec)) fnExactValOfUptoCard

/-- THE SECOND FORM's CARD OF 'laws.FnValSound'. -/
def fnValSoundUptoCard : Claim7 := { stood := { row := fnValSoundUptoRow, standIns := [], harness := (true, "df949bef645c9d5a609ce6dccf8956a06afcfc439159fbc7cd73d3dcf58944d3"), looks := false }, kinds := [], alts := [], laidByText := true, laidKinds := [.listed, .data], laidTests := true, laidLooks := .later }
def FnValSoundUptoCardSaid : Prop := Claim7.holds Tryz.pinned (.plain (OpenSpec.upto fnValSoundSpec)) fnValSoundUptoCard
end Rows
end Go.Proofs.YthkdghnejfmhfaaGreatDoor

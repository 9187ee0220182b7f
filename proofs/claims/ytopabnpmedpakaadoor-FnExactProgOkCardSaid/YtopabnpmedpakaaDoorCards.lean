/-
  DERIVED. GIVEN WITH THE SEED: THE CARDS: each row of YtopabnpmedpakaaDoorRows.lean that lists a variable, with what it lists TIED to the program's text (the seventh form; the later family's looks); each row that meets fmt, with fmt's text TOLD by the authors' own Lean function (tested against real Go, not proved from fmt's source: count such statements apart). THE CARD IS WHAT COUNTS. Prove the row's statement (the work); the ties are given (YtopabnpmedpakaaDoorTie.lean); close each card by the builder's one call (the guide's Derived/Test/ToyasCard.lean, 'card_holds'). Laid BY PROGRAM, IN A SANDBOX (cutbox-door.mjs). By AI agents, Wed Nov 11 2026. No macro, syntax, notation, axiom, sorry.
-/
import Derived.Test.YtopabnpmedpakaaDoorRows
import GoSem.ClaimSeven
namespace Go.Proofs.YtopabnpmedpakaaDoor
namespace Rows

/-- THE TIED CARD OF 'laws.FnExactProgOk'. -/
def fnExactProgOkCard : Claim7 := { stood := { row := fnExactProgOkRow, standIns := [], harness := (true, "4ba543fda4ee23ec056984d172a7b57ef7cce10b26e8e65c038a4696347174d2"), looks := false }, kinds := [], alts := [], laidByText := true, laidKinds := [.listed, .data], laidTests := true, laidLooks := .later }
def FnExactProgOkCardSaid : Prop := Claim7.holds Tryd.pinned (.plain (OpenSpec.ofChange fnExactProgOkSpec)) fnExactProgOkCard

/-- THE TIED CARD OF 'laws.FnPrefix'. -/
def fnPrefixCard : Claim7 := { stood := { row := fnPrefixRow, standIns := [], harness := (true, "4ba543fda4ee23ec056984d172a7b57ef7cce10b26e8e65c038a4696347174d2"), looks := false }, kinds := [], alts := [], laidByText := true, laidKinds := [.listed, .data], laidTests := true, laidLooks := .later }
def FnPrefixCardSaid : Prop := Claim7.holds Tryd.pinned (.plain (OpenSpec.ofChange fnPrefixSpec)) fnPrefixCard

/-- THE TIED CARD OF 'laws.FnTargets'. -/
def fnTargetsCard : Claim7 := { stood := { row := fnTargetsRow, standIns := [], harness := (true, "4ba543fda4ee23ec056984d172a7b57ef7cce10b26e8e65c038a4696347174d2"), looks := false }, kinds := [], alts := [], laidByText := true, laidKinds := [.listed, .data], laidTests := true, laidLooks := .later }
def FnTargetsCardSaid : Prop := Claim7.holds Tryd.pinned (.plain (OpenSpec.ofChange fnTargetsSpec)) fnTargetsCard

/-- THE SECOND FORM's CARD OF 'laws.FnExactProgOk'. -/
def fnExactProgOkUptoCard : Claim7 := { stood := { row := fnExactProgOkUptoRow, standIns := [], harness := (true, "4ba543fda4ee23ec056984d172a7b57ef7cce10b26e8e65c038a4696347174d2"), looks := false }, kinds := [], alts := [], laidByText := true, laidKinds := [.listed, .data], laidTests := true, laidLooks := .later }
def FnExactProgOkUptoCardSaid : Prop := Claim7.holds Tryd.pinned (.plain (OpenSpec.upto fnExactProgOkSpec)) fnExactProgOkUptoCard

/-- THE SECOND FORM's CARD OF 'laws.FnPrefix'. -/
def fnPrefixUptoCard : Claim7 := { stood := { row := fnPrefixUptoRow, standIns := [], harness := (true, "4ba543fda4ee23ec056984d172a7b57ef7cce10b26e8e65c038a4696347174d2"), looks := false }, kinds := [], alts := [], laidByText := true, laidKinds := [.listed, .data], laidTests := true, laidLooks := .later }
def FnPrefixUptoCardSaid : Prop := Claim7.holds Tryd.pinned (.plain (OpenSpec.upto fnPrefixSpec)) fnPrefixUptoCard

/-- THE SECOND FORM's CARD OF 'laws.FnTargets'. -/
def fnTargetsUptoCard : Claim7 := { stood := { row := fnTargetsUptoRow, standIns := [], harness := (true, "4ba543fda4ee23ec056984d172a7b57ef7cce10b26e8e65c038a4696347174d2"), looks := false }, kinds := [], alts := [], laidByText := true, laidKinds := [.listed, .data], laidTests := true, laidLooks := .later }
def FnTargetsUptoCardSaid : Prop := Claim7.holds Tryd.pinned (.plain (OpenSpec.upto fnTargetsSpec)) fnTargetsUptoCard
end Rows
end Go.Proofs.YtopabnpmedpakaaDoor

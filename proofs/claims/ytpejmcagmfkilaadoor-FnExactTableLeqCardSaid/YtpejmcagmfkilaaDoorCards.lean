/-
  DERIVED. GIVEN WITH THE SEED: THE CARDS: each row of YtpejmcagmfkilaaDoorRows.lean that lists a variable, with what it lists TIED to the program's text (the seventh form; the later family's looks); each row that meets fmt, with fmt's text TOLD by the authors' own Lean function (tested against real Go, not proved from fmt's source: count such statements apart). THE CARD IS WHAT COUNTS. Prove the row's statement (the work); the ties are given (YtpejmcagmfkilaaDoorTie.lean); close each card by the builder's one call (the guide's Derived/Test/ToyasCard.lean, 'card_holds'). Laid BY PROGRAM, IN A SANDBOX (cutbox-door.mjs). By AI agents, Wed Nov 11 2026. No macro, syntax, notation, axiom, sorry.
-/
import Derived.Test.YtpejmcagmfkilaaDoorRows
import GoSem.ClaimSeven
namespace Go.Proofs.YtpejmcagmfkilaaDoor
namespace Rows

/-- THE TIED CARD OF 'laws.FnJoins'. -/
def fnJoinsCard : Claim7 := { stood := { row := fnJoinsRow, standIns := [], harness := (true, "e58c36339b0fbc3b949a89510f031351c0fab6dcea3c281d306f5fc8846bad2a"), looks := false }, kinds := [], alts := [], laidByText := true, laidKinds := [.listed, .data], laidTests := true, laidLooks := .later }
def FnJoinsCardSaid : Prop := Claim7.holds Tryd.pinned (.plain (OpenSpec.ofChange fnJoinsSpec)) fnJoinsCard

/-- THE TIED CARD OF 'laws.FnEnvOrder'. -/
def fnEnvOrderCard : Claim7 := { stood := { row := fnEnvOrderRow, standIns := [], harness := (true, "e58c36339b0fbc3b949a89510f031351c0fab6dcea3c281d306f5fc8846bad2a"), looks := false }, kinds := [], alts := [], laidByText := true, laidKinds := [.listed, .data], laidTests := true, laidLooks := .later }
def FnEnvOrderCardSaid : Prop := Claim7.holds Tryd.pinned (.plain (OpenSpec.ofChange fnEnvOrderSpec)) fnEnvOrderCard

/-- THE TIED CARD OF 'laws.FnExactTableLeq'. -/
def fnExactTableLeqCard : Claim7 := { stood := { row := fnExactTableLeqRow, standIns := [], harness := (true, "e58c36339b0fbc3b949a89510f031351c0fab6dcea3c281d306f5fc8846bad2a"), looks := false }, kinds := [], alts := [], laidByText := true, laidKinds := [.listed, .data], laidTests := true, laidLooks := .later }
def FnExactTableLeqCardSaid : Prop := Claim7.holds Tryd.pinned (.plain (OpenSpec.ofChange fnExactTableLeqSpec)) fnExactTableLeqCard

/-- THE TIED CARD OF 'laws.FnExactEnvSet'. -/
def fnExactEnvSetCard : Claim7 := { stood := { row := fnExactEnvSetRow, standIns := [], harness := (true, "e58c36339b0fbc3b949a89510f031351c0fab6dcea3c281d306f5fc8846bad2a"), looks := false }, kinds := [], alts := [], laidByText := true, laidKinds := [.listed, .data], laidTests := true, laidLooks := .later }
def FnExactEnvSetCardSaid : Prop := Claim7.holds Tryd.pinned (.plain (OpenSpec.ofChange fnExactEnvSetSpec)) fnExactEnvSetCard

/-- THE TIED CARD OF 'laws.FnExactEnvJoin'. -/
def fnExactEnvJoinCard : Claim7 := { stood := { row := fnExactEnvJoinRow, standIns := [], harness := (true, "e58c36339b0fbc3b949a89510f031351c0fab6dcea3c281d306f5fc8846bad2a"), looks := false }, kinds := [], alts := [], laidByText := true, laidKinds := [.listed, .data], laidTests := true, laidLooks := .later }
def FnExactEnvJoinCardSaid : Prop := Claim7.holds Tryd.pinned (.plain (OpenSpec.ofChange fnExactEnvJoinSpec)) fnExactEnvJoinCard

/-- THE TIED CARD OF 'laws.FnExactEnvMeet'. -/
def fnExactEnvMeetCard : Claim7 := { stood := { row := fnExactEnvMeetRow, standIns := [], harness := (true, "e58c36339b0fbc3b949a89510f031351c0fab6dcea3c281d306f5fc8846bad2a"), looks := false }, kinds := [], alts := [], laidByText := true, laidKinds := [.listed, .data], laidTests := true, laidLooks := .later }
def FnExactEnvMeetCardSaid : Prop := Claim7.holds Tryd.pinned (.plain (OpenSpec.ofChange fnExactEnvMeetSpec)) fnExactEnvMeetCard

/-- THE SECOND FORM's CARD OF 'laws.FnJoins'. -/
def fnJoinsUptoCard : Claim7 := { stood := { row := fnJoinsUptoRow, standIns := [], harness := (true, "e58c36339b0fbc3b949a89510f031351c0fab6dcea3c281d306f5fc8846bad2a"), looks := false }, kinds := [], alts := [], laidByText := true, laidKinds := [.listed, .data], laidTests := true, laidLooks := .later }
def FnJoinsUptoCardSaid : Prop := Claim7.holds Tryd.pinned (.plain (OpenSpec.upto fnJoinsSpec)) fnJoinsUptoCard

/-- THE SECOND FORM's CARD OF 'laws.FnEnvOrder'. -/
def fnEnvOrderUptoCard : Claim7 := { stood := { row := fnEnvOrderUptoRow, standIns := [], harness := (true, "e58c36339b0fbc3b949a89510f031351c0fab6dcea3c281d306f5fc8846bad2a"), looks := false }, kinds := [], alts := [], laidByText := true, laidKinds := [.listed, .data], laidTests := true, laidLooks := .later }
def FnEnvOrderUptoCardSaid : Prop := Claim7.holds Tryd.pinned (.plain (OpenSpec.upto fnEnvOrderSpec)) fnEnvOrderUptoCard

/-- THE SECOND FORM's CARD OF 'laws.FnExactTableLeq'. -/
def fnExactTableLeqUptoCard : Claim7 := { stood := { row := fnExactTableLeqUptoRow, standIns := [], harness := (true, "e58c36339b0fbc3b949a89510f031351c0fab6dcea3c281d306f5fc8846bad2a"), looks := false }, kinds := [], alts := [], laidByText := true, laidKinds := [.listed, .data], laidTests := true, laidLooks := .later }
def FnExactTableLeqUptoCardSaid : Prop := Claim7.holds Tryd.pinned (.plain (OpenSpec.upto fnExactTableLeqSpec)) fnExactTableLeqUptoCard

/-- THE SECOND FORM's CARD OF 'laws.FnExactEnvSet'. -/
def fnExactEnvSetUptoCard : Claim7 := { stood := { row := fnExactEnvSetUptoRow, standIns := [], harness := (true, "e58c36339b0fbc3b949a89510f031351c0fab6dcea3c281d306f5fc8846bad2a"), looks := false }, kinds := [], alts := [], laidByText := true, laidKinds := [.listed, .data], laidTests := true, laidLooks := .later }
def FnExactEnvSetUptoCardSaid : Prop := Claim7.holds Tryd.pinned (.plain (OpenSpec.upto fnExactEnvSetSpec)) fnExactEnvSetUptoCard

/-- THE SECOND FORM's CARD OF 'laws.FnExactEnvJoin'. -/
def fnExactEnvJoinUptoCard : Claim7 := { stood := { row := fnExactEnvJoinUptoRow, standIns := [], harness := (true, "e58c36339b0fbc3b949a89510f031351c0fab6dcea3c281d306f5fc8846bad2a"), looks := false }, kinds := [], alts := [], laidByText := true, laidKinds := [.listed, .data], laidTests := true, laidLooks := .later }
def FnExactEnvJoinUptoCardSaid : Prop := Claim7.holds Tryd.pinned (.plain (OpenSpec.upto fnExactEnvJoinSpec)) fnExactEnvJoinUptoCard

/-- THE SECOND FORM's CARD OF 'laws.FnExactEnvMeet'. -/
def fnExactEnvMeetUptoCard : Claim7 := { stood := { row := fnExactEnvMeetUptoRow, standIns := [], harness := (true, "e58c36339b0fbc3b949a89510f031351c0fab6dcea3c281d306f5fc8846bad2a"), looks := false }, kinds := [], alts := [], laidByText := true, laidKinds := [.listed, .data], laidTests := true, laidLooks := .later }
def FnExactEnvMeetUptoCardSaid : Prop := Claim7.holds Tryd.pinned (.plain (OpenSpec.upto fnExactEnvMeetSpec)) fnExactEnvMeetUptoCard
end Rows
end Go.Proofs.YtpejmcagmfkilaaDoor

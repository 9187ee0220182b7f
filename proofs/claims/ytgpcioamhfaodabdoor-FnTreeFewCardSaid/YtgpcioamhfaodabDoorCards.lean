/-
  DERIVED. GIVEN WITH THE SEED: THE CARDS: each row of YtgpcioamhfaodabDoorRows.lean that lists a variable, with what it lists TIED to the program's text (the seventh form; the later family's looks); each row that meets fmt, with fmt's text TOLD by the authors' own Lean function (tested against real Go, not proved from fmt's source: count such statements apart). THE CARD IS WHAT COUNTS. Prove the row's statement (the work); the ties are given (YtgpcioamhfaodabDoorTie.lean); close each card by the builder's one call (the guide's Derived/Test/ToyasCard.lean, 'card_holds'). Laid BY PROGRAM, IN A SANDBOX (cutbox-door.mjs). By AI agents, Wed Nov 11 2026. No macro, syntax, notation, axiom, sorry.
-/
import Derived.Test.YtgpcioamhfaodabDoorRows
import GoSem.ClaimSeven
namespace Go.Proofs.YtgpcioamhfaodabDoor
namespace Rows

/-- THE TIED CARD OF 'laws.FnJoins'. -/
def fnJoinsCard : Claim7 := { stood := { row := fnJoinsRow, standIns := [], harness := (true, "9996743b8331439567308bcf0557ecd1a35b948f94e2c38922825ecc6e4813b8"), looks := false }, kinds := [], alts := [], laidByText := true, laidKinds := [.listed, .data], laidTests := true, laidLooks := .later }
def FnJoinsCardSaid : Prop := Claim7.holds Tryd.pinned (.plain (OpenSpec.ofChange fnJoinsSpec)) fnJoinsCard

/-- THE TIED CARD OF 'laws.FnEnvOrder'. -/
def fnEnvOrderCard : Claim7 := { stood := { row := fnEnvOrderRow, standIns := [], harness := (true, "9996743b8331439567308bcf0557ecd1a35b948f94e2c38922825ecc6e4813b8"), looks := false }, kinds := [], alts := [], laidByText := true, laidKinds := [.listed, .data], laidTests := true, laidLooks := .later }
def FnEnvOrderCardSaid : Prop := Claim7.holds Tryd.pinned (.plain (OpenSpec.ofChange fnEnvOrderSpec)) fnEnvOrderCard

/-- THE TIED CARD OF 'laws.FnTreeFew'. -/
def fnTreeFewCard : Claim7 := { stood := { row := fnTreeFewRow, standIns := [], harness := (true, "9996743b8331439567308bcf0557ecd1a35b948f94e2c38922825ecc6e4813b8"), looks := false }, kinds := [], alts := [], laidByText := true, laidKinds := [.listed, .data], laidTests := true, laidLooks := .later }
def FnTreeFewCardSaid : Prop := Claim7.holds Tryd.pinned (.plain (OpenSpec.ofChange fnTreeFewSpec)) fnTreeFewCard

/-- THE TIED CARD OF 'laws.FnExactEnvMeet'. -/
def fnExactEnvMeetCard : Claim7 := { stood := { row := fnExactEnvMeetRow, standIns := [], harness := (true, "9996743b8331439567308bcf0557ecd1a35b948f94e2c38922825ecc6e4813b8"), looks := false }, kinds := [], alts := [], laidByText := true, laidKinds := [.listed, .data], laidTests := true, laidLooks := .later }
def FnExactEnvMeetCardSaid : Prop := Claim7.holds Tryd.pinned (.plain (OpenSpec.ofChange fnExactEnvMeetSpec)) fnExactEnvMeetCard

/-- THE SECOND FORM's CARD OF 'laws.FnJoins'. -/
def fnJoinsUptoCard : Claim7 := { stood := { row := fnJoinsUptoRow, standIns := [], harness := (true, "9996743b8331439567308bcf0557ecd1a35b948f94e2c38922825ecc6e4813b8"), looks := false }, kinds := [], alts := [], laidByText := true, laidKinds := [.listed, .data], laidTests := true, laidLooks := .later }
def FnJoinsUptoCardSaid : Prop := Claim7.holds Tryd.pinned (.plain (OpenSpec.upto fnJoinsSpec)) fnJoinsUptoCard

/-- THE SECOND FORM's CARD OF 'laws.FnEnvOrder'. -/
def fnEnvOrderUptoCard : Claim7 := { stood := { row := fnEnvOrderUptoRow, standIns := [], harness := (true, "9996743b8331439567308bcf0557ecd1a35b948f94e2c38922825ecc6e4813b8"), looks := false }, kinds := [], alts := [], laidByText := true, laidKinds := [.listed, .data], laidTests := true, laidLooks := .later }
def FnEnvOrderUptoCardSaid : Prop := Claim7.holds Tryd.pinned (.plain (OpenSpec.upto fnEnvOrderSpec)) fnEnvOrderUptoCard

/-- THE SECOND FORM's CARD OF 'laws.FnTreeFew'. -/
def fnTreeFewUptoCard : Claim7 := { stood := { row := fnTreeFewUptoRow, standIns := [], harness := (true, "9996743b8331439567308bcf0557ecd1a35b948f94e2c38922825ecc6e4813b8"), looks := false }, kinds := [], alts := [], laidByText := true, laidKinds := [.listed, .data], laidTests := true, laidLooks := .later }
def FnTreeFewUptoCardSaid : Prop := Claim7.holds Tryd.pinned (.plain (OpenSpec.upto fnTreeFewSpec)) fnTreeFewUptoCard

/-- THE SECOND FORM's CARD OF 'laws.FnExactEnvMeet'. -/
def fnExactEnvMeetUptoCard : Claim7 := { stood := { row := fnExactEnvMeetUptoRow, standIns := [], harness := (true, "9996743b8331439567308bcf0557ecd1a35b948f94e2c38922825ecc6e4813b8"), looks := false }, kinds := [], alts := [], laidByText := true, laidKinds := [.listed, .data], laidTests := true, laidLooks := .later }
def FnExactEnvMeetUptoCardSaid : Prop := Claim7.holds Tryd.pinned (.plain (OpenSpec.upto fnExactEnvMeetSpec)) fnExactEnvMeetUptoCard
end Rows
end Go.Proofs.YtgpcioamhfaodabDoor

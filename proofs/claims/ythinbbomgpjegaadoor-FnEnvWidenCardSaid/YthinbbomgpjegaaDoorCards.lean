/-
  DERIVED. GIVEN WITH THE SEED: THE CARDS: each row of YthinbbomgpjegaaDoorRows.lean that lists a variable, with what it lists TIED to the program's text (the seventh form; the later family's looks); each row that meets fmt, with fmt's text TOLD by the authors' own Lean function (tested against real Go, not proved from fmt's source: count such statements apart). THE CARD IS WHAT COUNTS. Prove the row's statement (the work); the ties are given (YthinbbomgpjegaaDoorTie.lean); close each card by the builder's one call (the guide's Derived/Test/ToyasCard.lean, 'card_holds'). Laid BY PROGRAM, IN A SANDBOX (cutbox-door.mjs). By AI agents, Wed Nov 11 2026. No macro, syntax, notation, axiom, sorry.
-/
import Derived.Test.YthinbbomgpjegaaDoorRows
import GoSem.ClaimSeven
namespace Go.Proofs.YthinbbomgpjegaaDoor
namespace Rows

/-- THE TIED CARD OF 'laws.FnJoins'. -/
def fnJoinsCard : Claim7 := { stood := { row := fnJoinsRow, standIns := [], harness := (true, "91421e68687e3394f71a059d7153b7f55e8cd364041e92edc3ebe2b3b993e156"), looks := false }, kinds := [], alts := [], laidByText := true, laidKinds := [.listed, .data], laidTests := true, laidLooks := .later }
def FnJoinsCardSaid : Prop := Claim7.holds Tryd.pinned (.plain (OpenSpec.ofChange fnJoinsSpec)) fnJoinsCard

/-- THE TIED CARD OF 'laws.FnEnvOrder'. -/
def fnEnvOrderCard : Claim7 := { stood := { row := fnEnvOrderRow, standIns := [], harness := (true, "91421e68687e3394f71a059d7153b7f55e8cd364041e92edc3ebe2b3b993e156"), looks := false }, kinds := [], alts := [], laidByText := true, laidKinds := [.listed, .data], laidTests := true, laidLooks := .later }
def FnEnvOrderCardSaid : Prop := Claim7.holds Tryd.pinned (.plain (OpenSpec.ofChange fnEnvOrderSpec)) fnEnvOrderCard

/-- THE TIED CARD OF 'laws.FnEnvWiden'. -/
def fnEnvWidenCard : Claim7 := { stood := { row := fnEnvWidenRow, standIns := [], harness := (true, "91421e68687e3394f71a059d7153b7f55e8cd364041e92edc3ebe2b3b993e156"), looks := false }, kinds := [], alts := [], laidByText := true, laidKinds := [.listed, .data], laidTests := true, laidLooks := .later }
def FnEnvWidenCardSaid : Prop := Claim7.holds Tryd.pinned (.plain (OpenSpec.ofChange fnEnvWidenSpec)) fnEnvWidenCard

/-- THE TIED CARD OF 'laws.FnTreeFew'. -/
def fnTreeFewCard : Claim7 := { stood := { row := fnTreeFewRow, standIns := [], harness := (true, "91421e68687e3394f71a059d7153b7f55e8cd364041e92edc3ebe2b3b993e156"), looks := false }, kinds := [], alts := [], laidByText := true, laidKinds := [.listed, .data], laidTests := true, laidLooks := .later }
def FnTreeFewCardSaid : Prop := Claim7.holds Tryd.pinned (.plain (OpenSpec.ofChange fnTreeFewSpec)) fnTreeFewCard

/-- THE SECOND FORM's CARD OF 'laws.FnJoins'. -/
def fnJoinsUptoCard : Claim7 := { stood := { row := fnJoinsUptoRow, standIns := [], harness := (true, "91421e68687e3394f71a059d7153b7f55e8cd364041e92edc3ebe2b3b993e156"), looks := false }, kinds := [], alts := [], laidByText := true, laidKinds := [.listed, .data], laidTests := true, laidLooks := .later }
def FnJoinsUptoCardSaid : Prop := Claim7.holds Tryd.pinned (.plain (OpenSpec.upto fnJoinsSpec)) fnJoinsUptoCard

/-- THE SECOND FORM's CARD OF 'laws.FnEnvOrder'. -/
def fnEnvOrderUptoCard : Claim7 := { stood := { row := fnEnvOrderUptoRow, standIns := [], harness := (true, "91421e68687e3394f71a059d7153b7f55e8cd364041e92edc3ebe2b3b993e156"), looks := false }, kinds := [], alts := [], laidByText := true, laidKinds := [.listed, .data], laidTests := true, laidLooks := .later }
def FnEnvOrderUptoCardSaid : Prop := Claim7.holds Tryd.pinned (.plain (OpenSpec.upto fnEnvOrderSpec)) fnEnvOrderUptoCard

/-- THE SECOND FORM's CARD OF 'laws.FnEnvWiden'. -/
def fnEnvWidenUptoCard : Claim7 := { stood := { row := fnEnvWidenUptoRow, standIns := [], harness := (true, "91421e68687e3394f71a059d7153b7f55e8cd364041e92edc3ebe2b3b993e156"), looks := false }, kinds := [], alts := [], laidByText := true, laidKinds := [.listed, .data], laidTests := true, laidLooks := .later }
def FnEnvWidenUptoCardSaid : Prop := Claim7.holds Tryd.pinned (.plain (OpenSpec.upto fnEnvWidenSpec)) fnEnvWidenUptoCard

/-- THE SECOND FORM's CARD OF 'laws.FnTreeFew'. -/
def fnTreeFewUptoCard : Claim7 := { stood := { row := fnTreeFewUptoRow, standIns := [], harness := (true, "91421e68687e3394f71a059d7153b7f55e8cd364041e92edc3ebe2b3b993e156"), looks := false }, kinds := [], alts := [], laidByText := true, laidKinds := [.listed, .data], laidTests := true, laidLooks := .later }
def FnTreeFewUptoCardSaid : Prop := Claim7.holds Tryd.pinned (.plain (OpenSpec.upto fnTreeFewSpec)) fnTreeFewUptoCard
end Rows
end Go.Proofs.YthinbbomgpjegaaDoor

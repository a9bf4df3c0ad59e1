/-
  DERIVED. GIVEN WITH THE SEED: THE CARDS: each row of YtbemgfdaenepjaaDoorRows.lean that lists a variable, with what it lists TIED to the program's text (the seventh form; the later family's looks); each row that meets fmt, with fmt's text TOLD by the authors' own Lean function (tested against real Go, not proved from fmt's source: count such statements apart). THE CARD IS WHAT COUNTS. Prove the row's statement (the work); the ties are given (YtbemgfdaenepjaaDoorTie.lean); close each card by the builder's one call (the guide's Derived/Test/ToyasCard.lean, 'card_holds'). Laid BY PROGRAM, IN A SANDBOX (cutbox-door.mjs). By AI agents, Wed Nov 11 2026. No macro, syntax, notation, axiom, sorry.
-/
import Derived.Test.YtbemgfdaenepjaaDoorRows
import GoSem.ClaimSeven
namespace Go.Proofs.YtbemgfdaenepjaaDoor
namespace Rows

/-- THE TIED CARD OF 'laws.FnExactExprText'. -/
def fnExactExprTextCard : Claim7 := { stood := { row := fnExactExprTextRow, standIns := [], harness := (true, "5da77384102d75dc010c0db963aedb25cec819d8b08e5c7d30cb490a6b689235"), looks := true }, kinds := [], alts := [], laidByText := true, laidKinds := [.data, .data, .data], laidTests := true, laidLooks := .later }
def FnExactExprTextCardSaid : Prop := Claim7.holds Tryd.pinned (.plain (OpenSpec.ofChange fnExactExprTextSpec)) fnExactExprTextCard

/-- THE TIED CARD OF 'laws.FnExactLex'. -/
def fnExactLexCard : Claim7 := { stood := { row := fnExactLexRow, standIns := [], harness := (true, "5da77384102d75dc010c0db963aedb25cec819d8b08e5c7d30cb490a6b689235"), looks := true }, kinds := [], alts := [], laidByText := true, laidKinds := [.data, .data, .data, .sentinel, .sentinel], laidTests := true, laidLooks := .later }
def FnExactLexCardSaid : Prop := Claim7.holds Tryd.pinned (.plain (OpenSpec.ofChange fnExactLexSpec)) fnExactLexCard

/-- THE TIED CARD OF 'laws.FnLexed'. -/
def fnLexedCard : Claim7 := { stood := { row := fnLexedRow, standIns := [], harness := (true, "5da77384102d75dc010c0db963aedb25cec819d8b08e5c7d30cb490a6b689235"), looks := true }, kinds := [], alts := [], laidByText := true, laidKinds := [.data, .data, .data, .sentinel, .sentinel], laidTests := true, laidLooks := .later }
def FnLexedCardSaid : Prop := Claim7.holds Tryd.pinned (.plain (OpenSpec.ofChange fnLexedSpec)) fnLexedCard

/-- THE TIED CARD OF 'laws.FnExactLineOf'. -/
def fnExactLineOfCard : Claim7 := { stood := { row := fnExactLineOfRow, standIns := [], harness := (true, "5da77384102d75dc010c0db963aedb25cec819d8b08e5c7d30cb490a6b689235"), looks := true }, kinds := [], alts := [], laidByText := true, laidKinds := [.data, .data, .data], laidTests := true, laidLooks := .later }
def FnExactLineOfCardSaid : Prop := Claim7.holds Tryd.pinned (.plain (OpenSpec.ofChange fnExactLineOfSpec)) fnExactLineOfCard

/-- THE SECOND FORM's CARD OF 'laws.FnExactExprText'. -/
def fnExactExprTextUptoCard : Claim7 := { stood := { row := fnExactExprTextUptoRow, standIns := [], harness := (true, "5da77384102d75dc010c0db963aedb25cec819d8b08e5c7d30cb490a6b689235"), looks := true }, kinds := [], alts := [], laidByText := true, laidKinds := [.data, .data, .data], laidTests := true, laidLooks := .later }
def FnExactExprTextUptoCardSaid : Prop := Claim7.holds Tryd.pinned (.plain (OpenSpec.upto fnExactExprTextSpec)) fnExactExprTextUptoCard

/-- THE SECOND FORM's CARD OF 'laws.FnExactLex'. -/
def fnExactLexUptoCard : Claim7 := { stood := { row := fnExactLexUptoRow, standIns := [], harness := (true, "5da77384102d75dc010c0db963aedb25cec819d8b08e5c7d30cb490a6b689235"), looks := true }, kinds := [], alts := [], laidByText := true, laidKinds := [.data, .data, .data, .sentinel, .sentinel], laidTests := true, laidLooks := .later }
def FnExactLexUptoCardSaid : Prop := Claim7.holds Tryd.pinned (.plain (OpenSpec.upto fnExactLexSpec)) fnExactLexUptoCard

/-- THE SECOND FORM's CARD OF 'laws.FnLexed'. -/
def fnLexedUptoCard : Claim7 := { stood := { row := fnLexedUptoRow, standIns := [], harness := (true, "5da77384102d75dc010c0db963aedb25cec819d8b08e5c7d30cb490a6b689235"), looks := true }, kinds := [], alts := [], laidByText := true, laidKinds := [.data, .data, .data, .sentinel, .sentinel], laidTests := true, laidLooks := .later }
def FnLexedUptoCardSaid : Prop := Claim7.holds Tryd.pinned (.plain (OpenSpec.upto fnLexedSpec)) fnLexedUptoCard

/-- THE SECOND FORM's CARD OF 'laws.FnExactLineOf'. -/
def fnExactLineOfUptoCard : Claim7 := { stood := { row := fnExactLineOfUptoRow, standIns := [], harness := (true, "5da77384102d75dc010c0db963aedb25cec819d8b08e5c7d30cb490a6b689235"), looks := true }, kinds := [], alts := [], laidByText := true, laidKinds := [.data, .data, .data], laidTests := true, laidLooks := .later }
def FnExactLineOfUptoCardSaid : Prop := Claim7.holds Tryd.pinned (.plain (OpenSpec.upto fnExactLineOfSpec)) fnExactLineOfUptoCard
end Rows
end Go.Proofs.YtbemgfdaenepjaaDoor

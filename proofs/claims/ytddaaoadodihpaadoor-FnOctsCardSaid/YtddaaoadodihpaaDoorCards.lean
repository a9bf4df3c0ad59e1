/-
  DERIVED. GIVEN WITH THE SEED: THE CARDS: each row of YtddaaoadodihpaaDoorRows.lean that lists a variable, with what it lists TIED to the program's text (the seventh form; the later family's looks); each row that meets fmt, with fmt's text TOLD by the authors' own Lean function (tested against real Go, not proved from fmt's source: count such statements apart). THE CARD IS WHAT COUNTS. Prove the row's statement (the work); the ties are given (YtddaaoadodihpaaDoorTie.lean); close each card by the builder's one call (the guide's Derived/Test/ToyasCard.lean, 'card_holds'). Laid BY PROGRAM, IN A SANDBOX (cutbox-door.mjs). By AI agents, Wed Nov 11 2026. No macro, syntax, notation, axiom, sorry.
-/
import Derived.Test.YtddaaoadodihpaaDoorRows
import GoSem.ClaimSeven
namespace Go.Proofs.YtddaaoadodihpaaDoor
namespace Rows

/-- THE TIED CARD OF 'laws.FnExactOct'. -/
def fnExactOctCard : Claim7 := { stood := { row := fnExactOctRow, standIns := [], harness := (true, "13d4e64535f945609611e7ed1c169b47eec6ecabae59e7030790ae34a8cd7eb8"), looks := true }, kinds := [], alts := [], laidByText := true, laidKinds := [.data, .data, .data], laidTests := true, laidLooks := .later }
def FnExactOctCardSaid : Prop := Claim7.holds Tryd.pinned (.plain (OpenSpec.ofChange fnExactOctSpec)) fnExactOctCard

/-- THE TIED CARD OF 'laws.FnExactGetRad'. -/
def fnExactGetRadCard : Claim7 := { stood := { row := fnExactGetRadRow, standIns := [], harness := (true, "13d4e64535f945609611e7ed1c169b47eec6ecabae59e7030790ae34a8cd7eb8"), looks := true }, kinds := [], alts := [], laidByText := true, laidKinds := [.data, .pinned], laidTests := true, laidLooks := .later }
def FnExactGetRadCardSaid : Prop := Claim7.holds Tryd.pinned (.plain (OpenSpec.ofChange fnExactGetRadSpec)) fnExactGetRadCard

/-- THE TIED CARD OF 'laws.FnExactOutcome'. -/
def fnExactOutcomeCard : Claim7 := { stood := { row := fnExactOutcomeRow, standIns := [], harness := (true, "13d4e64535f945609611e7ed1c169b47eec6ecabae59e7030790ae34a8cd7eb8"), looks := true }, kinds := [], alts := [], laidByText := true, laidKinds := [.data, .data, .data], laidTests := true, laidLooks := .later }
def FnExactOutcomeCardSaid : Prop := Claim7.holds Tryd.pinned (.plain (OpenSpec.ofChange fnExactOutcomeSpec)) fnExactOutcomeCard

/-- THE TIED CARD OF 'laws.FnRads'. -/
def fnRadsCard : Claim7 := { stood := { row := fnRadsRow, standIns := [], harness := (true, "13d4e64535f945609611e7ed1c169b47eec6ecabae59e7030790ae34a8cd7eb8"), looks := true }, kinds := [], alts := [], laidByText := true, laidKinds := [.data, .pinned], laidTests := true, laidLooks := .later }
def FnRadsCardSaid : Prop := Claim7.holds Tryd.pinned (.plain (OpenSpec.ofChange fnRadsSpec)) fnRadsCard

/-- THE TIED CARD OF 'laws.FnExactParseOct'. -/
def fnExactParseOctCard : Claim7 := { stood := { row := fnExactParseOctRow, standIns := [], harness := (true, "13d4e64535f945609611e7ed1c169b47eec6ecabae59e7030790ae34a8cd7eb8"), looks := true }, kinds := [], alts := [], laidByText := true, laidKinds := [.data, .data, .data, .sentinel, .sentinel], laidTests := true, laidLooks := .later }
def FnExactParseOctCardSaid : Prop := Claim7.holds Tryd.pinned (.plain (OpenSpec.ofChange fnExactParseOctSpec)) fnExactParseOctCard

/-- THE TIED CARD OF 'laws.FnOcts'. -/
def fnOctsCard : Claim7 := { stood := { row := fnOctsRow, standIns := [], harness := (true, "13d4e64535f945609611e7ed1c169b47eec6ecabae59e7030790ae34a8cd7eb8"), looks := true }, kinds := [], alts := [], laidByText := true, laidKinds := [.data, .data, .data, .sentinel, .sentinel], laidTests := true, laidLooks := .later }
def FnOctsCardSaid : Prop := Claim7.holds Tryd.pinned (.plain (OpenSpec.ofChange fnOctsSpec)) fnOctsCard

/-- THE SECOND FORM's CARD OF 'laws.FnExactOct'. -/
def fnExactOctUptoCard : Claim7 := { stood := { row := fnExactOctUptoRow, standIns := [], harness := (true, "13d4e64535f945609611e7ed1c169b47eec6ecabae59e7030790ae34a8cd7eb8"), looks := true }, kinds := [], alts := [], laidByText := true, laidKinds := [.data, .data, .data], laidTests := true, laidLooks := .later }
def FnExactOctUptoCardSaid : Prop := Claim7.holds Tryd.pinned (.plain (OpenSpec.upto fnExactOctSpec)) fnExactOctUptoCard

/-- THE SECOND FORM's CARD OF 'laws.FnExactGetRad'. -/
def fnExactGetRadUptoCard : Claim7 := { stood := { row := fnExactGetRadUptoRow, standIns := [], harness := (true, "13d4e64535f945609611e7ed1c169b47eec6ecabae59e7030790ae34a8cd7eb8"), looks := true }, kinds := [], alts := [], laidByText := true, laidKinds := [.data, .pinned], laidTests := true, laidLooks := .later }
def FnExactGetRadUptoCardSaid : Prop := Claim7.holds Tryd.pinned (.plain (OpenSpec.upto fnExactGetRadSpec)) fnExactGetRadUptoCard

/-- THE SECOND FORM's CARD OF 'laws.FnExactOutcome'. -/
def fnExactOutcomeUptoCard : Claim7 := { stood := { row := fnExactOutcomeUptoRow, standIns := [], harness := (true, "13d4e64535f945609611e7ed1c169b47eec6ecabae59e7030790ae34a8cd7eb8"), looks := true }, kinds := [], alts := [], laidByText := true, laidKinds := [.data, .data, .data], laidTests := true, laidLooks := .later }
def FnExactOutcomeUptoCardSaid : Prop := Claim7.holds Tryd.pinned (.plain (OpenSpec.upto fnExactOutcomeSpec)) fnExactOutcomeUptoCard

/-- THE SECOND FORM's CARD OF 'laws.FnRads'. -/
def fnRadsUptoCard : Claim7 := { stood := { row := fnRadsUptoRow, standIns := [], harness := (true, "13d4e64535f945609611e7ed1c169b47eec6ecabae59e7030790ae34a8cd7eb8"), looks := true }, kinds := [], alts := [], laidByText := true, laidKinds := [.data, .pinned], laidTests := true, laidLooks := .later }
def FnRadsUptoCardSaid : Prop := Claim7.holds Tryd.pinned (.plain (OpenSpec.upto fnRadsSpec)) fnRadsUptoCard

/-- THE SECOND FORM's CARD OF 'laws.FnExactParseOct'. -/
def fnExactParseOctUptoCard : Claim7 := { stood := { row := fnExactParseOctUptoRow, standIns := [], harness := (true, "13d4e64535f945609611e7ed1c169b47eec6ecabae59e7030790ae34a8cd7eb8"), looks := true }, kinds := [], alts := [], laidByText := true, laidKinds := [.data, .data, .data, .sentinel, .sentinel], laidTests := true, laidLooks := .later }
def FnExactParseOctUptoCardSaid : Prop := Claim7.holds Tryd.pinned (.plain (OpenSpec.upto fnExactParseOctSpec)) fnExactParseOctUptoCard

/-- THE SECOND FORM's CARD OF 'laws.FnOcts'. -/
def fnOctsUptoCard : Claim7 := { stood := { row := fnOctsUptoRow, standIns := [], harness := (true, "13d4e64535f945609611e7ed1c169b47eec6ecabae59e7030790ae34a8cd7eb8"), looks := true }, kinds := [], alts := [], laidByText := true, laidKinds := [.data, .data, .data, .sentinel, .sentinel], laidTests := true, laidLooks := .later }
def FnOctsUptoCardSaid : Prop := Claim7.holds Tryd.pinned (.plain (OpenSpec.upto fnOctsSpec)) fnOctsUptoCard
end Rows
end Go.Proofs.YtddaaoadodihpaaDoor

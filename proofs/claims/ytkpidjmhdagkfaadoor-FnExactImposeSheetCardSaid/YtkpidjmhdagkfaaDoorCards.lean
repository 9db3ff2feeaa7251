/-
  DERIVED. GIVEN WITH THE SEED: THE CARDS: each row of YtkpidjmhdagkfaaDoorRows.lean that lists a variable, with what it lists TIED to the program's text (the seventh form; the later family's looks); each row that meets fmt, with fmt's text TOLD by the authors' own Lean function (tested against real Go, not proved from fmt's source: count such statements apart). THE CARD IS WHAT COUNTS. Prove the row's statement (the work); the ties are given (YtkpidjmhdagkfaaDoorTie.lean); close each card by the builder's one call (the guide's Derived/Test/ToyasCard.lean, 'card_holds'). Laid BY PROGRAM, IN A SANDBOX (cutbox-door.mjs). By AI agents, Wed Nov 11 2026. No macro, syntax, notation, axiom, sorry.
-/
import Derived.Test.YtkpidjmhdagkfaaDoorRows
import GoSem.ClaimSeven
namespace Go.Proofs.YtkpidjmhdagkfaaDoor
namespace Rows

/-- THE TIED CARD OF 'laws.FnExactImposeSheet'. -/
def fnExactImposeSheetCard : Claim7 := { stood := { row := fnExactImposeSheetRow, standIns := [], harness := (true, "366b92195020970a96b743e765a53c56592b9f0e88de3fbcaaa5fe4e03887531"), looks := false }, kinds := [], alts := [], laidByText := true, laidKinds := [.data, .pinned], laidTests := true, laidLooks := .later }
def FnExactImposeSheetCardSaid : Prop := Claim7.holds Tryd.pinned (.plain (OpenSpec.ofChange fnExactImposeSheetSpec)) fnExactImposeSheetCard

/-- THE SECOND FORM's CARD OF 'laws.FnExactImposeSheet'. -/
def fnExactImposeSheetUptoCard : Claim7 := { stood := { row := fnExactImposeSheetUptoRow, standIns := [], harness := (true, "366b92195020970a96b743e765a53c56592b9f0e88de3fbcaaa5fe4e03887531"), looks := false }, kinds := [], alts := [], laidByText := true, laidKinds := [.data, .pinned], laidTests := true, laidLooks := .later }
def FnExactImposeSheetUptoCardSaid : Prop := Claim7.holds Tryd.pinned (.plain (OpenSpec.upto fnExactImposeSheetSpec)) fnExactImposeSheetUptoCard
end Rows
end Go.Proofs.YtkpidjmhdagkfaaDoor

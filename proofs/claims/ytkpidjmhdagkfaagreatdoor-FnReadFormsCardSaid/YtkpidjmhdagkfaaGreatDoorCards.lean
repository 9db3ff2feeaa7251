/-
  DERIVED. GIVEN WITH THE SEED: THE CARDS: each row of YtkpidjmhdagkfaaGreatDoorRows.lean that lists a variable, with what it lists TIED to the program's text (the seventh form; the later family's looks); each row that meets fmt, with fmt's text TOLD by the authors' own Lean function (tested against real Go, not proved from fmt's source: count such statements apart). THE CARD IS WHAT COUNTS. Prove the row's statement (the work); the ties are given (YtkpidjmhdagkfaaGreatDoorTie.lean); close each card by the builder's one call (the guide's Derived/Test/ToyasCard.lean, 'card_holds'). Laid BY PROGRAM, IN A SANDBOX (cutbox-door.mjs). By AI agents, Wed Nov 11 2026. No macro, syntax, notation, axiom, sorry.
-/
import Derived.Test.YtkpidjmhdagkfaaGreatDoorRows
import GoSem.ClaimSeven
namespace Go.Proofs.YtkpidjmhdagkfaaGreatDoor
namespace Rows

/-- THE TIED CARD OF 'laws.FnExactIsRightForm'. -/
def fnExactIsRightFormCard : Claim7 := { stood := { row := fnExactIsRightFormRow, standIns := [], harness := (true, "ee01a7a28acd53ea226c74c6507d98be238ac4a0efdc5668fdcfe3472abc0eb9"), looks := false }, kinds := [], alts := [], laidByText := true, laidKinds := [.data, .pinned], laidTests := true, laidLooks := .later }
def FnExactIsRightFormCardSaid : Prop := Claim7.holds Tryz.pinned (.plain (OpenSpec.ofChange fnExactIsRightFormSpec)) fnExactIsRightFormCard

/-- THE TIED CARD OF 'laws.FnImposed'. -/
def fnImposedCard : Claim7 := { stood := { row := fnImposedRow, standIns := [], harness := (true, "ee01a7a28acd53ea226c74c6507d98be238ac4a0efdc5668fdcfe3472abc0eb9"), looks := false }, kinds := [], alts := [], laidByText := true, laidKinds := [.data, .pinned], laidTests := true, laidLooks := .later }
def FnImposedCardSaid : Prop := Claim7.holds Tryz.pinned (.plain (OpenSpec.ofChange fnImposedSpec)) fnImposedCard

/-- THE TIED CARD OF 'laws.FnReadForms'. -/
def fnReadFormsCard : Claim7 := { stood := { row := fnReadFormsRow, standIns := [], harness := (true, "ee01a7a28acd53ea226c74c6507d98be238ac4a0efdc5668fdcfe3472abc0eb9"), looks := false }, kinds := [], alts := [], laidByText := true, laidKinds := [.data, .pinned], laidTests := true, laidLooks := .later }
def FnReadFormsCardSaid : Prop := Claim7.holds Tryz.pinned (.plain (OpenSpec.ofChange fnReadFormsSpec)) fnReadFormsCard

/-- THE TIED CARD OF 'laws.FnExactReadForm'. -/
def fnExactReadFormCard : Claim7 := { stood := { row := fnExactReadFormRow, standIns := [], harness := (true, "ee01a7a28acd53ea226c74c6507d98be238ac4a0efdc5668fdcfe3472abc0eb9"), looks := false }, kinds := [], alts := [], laidByText := true, laidKinds := [.data, .pinned], laidTests := true, laidLooks := .later }
def FnExactReadFormCardSaid : Prop := Claim7.holds Tryz.pinned (.plain (OpenSpec.ofChange fnExactReadFormSpec)) fnExactReadFormCard

/-- THE SECOND FORM's CARD OF 'laws.FnExactIsRightForm'. -/
def fnExactIsRightFormUptoCard : Claim7 := { stood := { row := fnExactIsRightFormUptoRow, standIns := [], harness := (true, "ee01a7a28acd53ea226c74c6507d98be238ac4a0efdc5668fdcfe3472abc0eb9"), looks := false }, kinds := [], alts := [], laidByText := true, laidKinds := [.data, .pinned], laidTests := true, laidLooks := .later }
def FnExactIsRightFormUptoCardSaid : Prop := Claim7.holds Tryz.pinned (.plain (OpenSpec.upto fnExactIsRightFormSpec)) fnExactIsRightFormUptoCard

/-- THE SECOND FORM's CARD OF 'laws.FnImposed'. -/
def fnImposedUptoCard : Claim7 := { stood := { row := fnImposedUptoRow, standIns := [], harness := (true, "ee01a7a28acd53ea226c74c6507d98be238ac4a0efdc5668fdcfe3472abc0eb9"), looks := false }, kinds := [], alts := [], laidByText := true, laidKinds := [.data, .pinned], laidTests := true, laidLooks := .later }
def FnImposedUptoCardSaid : Prop := Claim7.holds Tryz.pinned (.plain (OpenSpec.upto fnImposedSpec)) fnImposedUptoCard

/-- THE SECOND FORM's CARD OF 'laws.FnReadForms'. -/
def fnReadFormsUptoCard : Claim7 := { stood := { row := fnReadFormsUptoRow, standIns := [], harness := (true, "ee01a7a28acd53ea226c74c6507d98be238ac4a0efdc5668fdcfe3472abc0eb9"), looks := false }, kinds := [], alts := [], laidByText := true, laidKinds := [.data, .pinned], laidTests := true, laidLooks := .later }
def FnReadFormsUptoCardSaid : Prop := Claim7.holds Tryz.pinned (.plain (OpenSpec.upto fnReadFormsSpec)) fnReadFormsUptoCard

/-- THE SECOND FORM's CARD OF 'laws.FnExactReadForm'. -/
def fnExactReadFormUptoCard : Claim7 := { stood := { row := fnExactReadFormUptoRow, standIns := [], harness := (true, "ee01a7a28acd53ea226c74c6507d98be238ac4a0efdc5668fdcfe3472abc0eb9"), looks := false }, kinds := [], alts := [], laidByText := true, laidKinds := [.data, .pinned], laidTests := true, laidLooks := .later }
def FnExactReadFormUptoCardSaid : Prop := Claim7.holds Tryz.pinned (.plain (OpenSpec.upto fnExactReadFormSpec)) fnExactReadFormUptoCard
end Rows
end Go.Proofs.YtkpidjmhdagkfaaGreatDoor

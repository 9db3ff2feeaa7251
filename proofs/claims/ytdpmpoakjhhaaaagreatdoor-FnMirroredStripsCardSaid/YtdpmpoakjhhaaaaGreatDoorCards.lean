/-
  DERIVED. GIVEN WITH THE SEED: THE CARDS: each row of YtdpmpoakjhhaaaaGreatDoorRows.lean that lists a variable, with what it lists TIED to the program's text (the seventh form; the later family's looks); each row that meets fmt, with fmt's text TOLD by the authors' own Lean function (tested against real Go, not proved from fmt's source: count such statements apart). THE CARD IS WHAT COUNTS. Prove the row's statement (the work); the ties are given (YtdpmpoakjhhaaaaGreatDoorTie.lean); close each card by the builder's one call (the guide's Derived/Test/ToyasCard.lean, 'card_holds'). Laid BY PROGRAM, IN A SANDBOX (cutbox-door.mjs). By AI agents, Wed Nov 11 2026. No macro, syntax, notation, axiom, sorry.
-/
import Derived.Test.YtdpmpoakjhhaaaaGreatDoorRows
import GoSem.ClaimSeven
namespace Go.Proofs.YtdpmpoakjhhaaaaGreatDoor
namespace Rows

/-- THE TIED CARD OF 'laws.FnMirroredStrips'. -/
def fnMirroredStripsCard : Claim7 := { stood := { row := fnMirroredStripsRow, standIns := [], harness := (true, "3c3062ba22c902014abe380b419e3b341a5ef86f35b40192334cc4026a2f12db"), looks := true }, kinds := [], alts := [], laidByText := true, laidKinds := [.data, .pinned], laidTests := true, laidLooks := .later }
def FnMirroredStripsCardSaid : Prop := Claim7.holds Tryz.pinned (.plain (OpenSpec.ofChange fnMirroredStripsSpec)) fnMirroredStripsCard

/-- THE TIED CARD OF 'laws.FnExactMirrorScheme'. -/
def fnExactMirrorSchemeCard : Claim7 := { stood := { row := fnExactMirrorSchemeRow, standIns := [], harness := (true, "3c3062ba22c902014abe380b419e3b341a5ef86f35b40192334cc4026a2f12db"), looks := true }, kinds := [], alts := [], laidByText := true, laidKinds := [.data, .pinned], laidTests := true, laidLooks := .later }
def FnExactMirrorSchemeCardSaid : Prop := Claim7.holds Tryz.pinned (.plain (OpenSpec.ofChange fnExactMirrorSchemeSpec)) fnExactMirrorSchemeCard

/-- THE TIED CARD OF 'laws.FnMirroredSheets'. -/
def fnMirroredSheetsCard : Claim7 := { stood := { row := fnMirroredSheetsRow, standIns := [], harness := (true, "3c3062ba22c902014abe380b419e3b341a5ef86f35b40192334cc4026a2f12db"), looks := true }, kinds := [], alts := [], laidByText := true, laidKinds := [.data, .pinned], laidTests := true, laidLooks := .later }
def FnMirroredSheetsCardSaid : Prop := Claim7.holds Tryz.pinned (.plain (OpenSpec.ofChange fnMirroredSheetsSpec)) fnMirroredSheetsCard

/-- THE SECOND FORM's CARD OF 'laws.FnMirroredStrips'. -/
def fnMirroredStripsUptoCard : Claim7 := { stood := { row := fnMirroredStripsUptoRow, standIns := [], harness := (true, "3c3062ba22c902014abe380b419e3b341a5ef86f35b40192334cc4026a2f12db"), looks := true }, kinds := [], alts := [], laidByText := true, laidKinds := [.data, .pinned], laidTests := true, laidLooks := .later }
def FnMirroredStripsUptoCardSaid : Prop := Claim7.holds Tryz.pinned (.plain (OpenSpec.upto fnMirroredStripsSpec)) fnMirroredStripsUptoCard

/-- THE SECOND FORM's CARD OF 'laws.FnExactMirrorScheme'. -/
def fnExactMirrorSchemeUptoCard : Claim7 := { stood := { row := fnExactMirrorSchemeUptoRow, standIns := [], harness := (true, "3c3062ba22c902014abe380b419e3b341a5ef86f35b40192334cc4026a2f12db"), looks := true }, kinds := [], alts := [], laidByText := true, laidKinds := [.data, .pinned], laidTests := true, laidLooks := .later }
def FnExactMirrorSchemeUptoCardSaid : Prop := Claim7.holds Tryz.pinned (.plain (OpenSpec.upto fnExactMirrorSchemeSpec)) fnExactMirrorSchemeUptoCard

/-- THE SECOND FORM's CARD OF 'laws.FnMirroredSheets'. -/
def fnMirroredSheetsUptoCard : Claim7 := { stood := { row := fnMirroredSheetsUptoRow, standIns := [], harness := (true, "3c3062ba22c902014abe380b419e3b341a5ef86f35b40192334cc4026a2f12db"), looks := true }, kinds := [], alts := [], laidByText := true, laidKinds := [.data, .pinned], laidTests := true, laidLooks := .later }
def FnMirroredSheetsUptoCardSaid : Prop := Claim7.holds Tryz.pinned (.plain (OpenSpec.upto fnMirroredSheetsSpec)) fnMirroredSheetsUptoCard
end Rows
end Go.Proofs.YtdpmpoakjhhaaaaGreatDoor

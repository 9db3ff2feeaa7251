/-
  DERIVED. GIVEN WITH THE SEED: THE CARDS: each row of YtijbccmcfagnfaaDoorRows.lean that lists a variable, with what it lists TIED to the program's text (the seventh form; the later family's looks); each row that meets fmt, with fmt's text TOLD by the authors' own Lean function (tested against real Go, not proved from fmt's source: count such statements apart). THE CARD IS WHAT COUNTS. Prove the row's statement (the work); the ties are given (YtijbccmcfagnfaaDoorTie.lean); close each card by the builder's one call (the guide's Derived/Test/ToyasCard.lean, 'card_holds'). Laid BY PROGRAM, IN A SANDBOX (cutbox-door.mjs). By AI agents, Wed Nov 11 2026. No macro, syntax, notation, axiom, sorry.
-/
import Derived.Test.YtijbccmcfagnfaaDoorRows
import GoSem.ClaimSeven
namespace Go.Proofs.YtijbccmcfagnfaaDoor
namespace Rows

/-- THE TIED CARD OF 'laws.FnExactIsScheme'. -/
def fnExactIsSchemeCard : Claim7 := { stood := { row := fnExactIsSchemeRow, standIns := [], harness := (true, "71e5a92e6089f9dd29aae4771b610797d70a9293ba0978bfb8f5bb0aac8aba5e"), looks := false }, kinds := [], alts := [], laidByText := true, laidKinds := [.data, .pinned], laidTests := true, laidLooks := .later }
def FnExactIsSchemeCardSaid : Prop := Claim7.holds Tryd.pinned (.plain (OpenSpec.ofChange fnExactIsSchemeSpec)) fnExactIsSchemeCard

/-- THE TIED CARD OF 'laws.FnExactFacesDown'. -/
def fnExactFacesDownCard : Claim7 := { stood := { row := fnExactFacesDownRow, standIns := [], harness := (true, "71e5a92e6089f9dd29aae4771b610797d70a9293ba0978bfb8f5bb0aac8aba5e"), looks := false }, kinds := [], alts := [], laidByText := true, laidKinds := [.data, .pinned], laidTests := true, laidLooks := .later }
def FnExactFacesDownCardSaid : Prop := Claim7.holds Tryd.pinned (.plain (OpenSpec.ofChange fnExactFacesDownSpec)) fnExactFacesDownCard

/-- THE TIED CARD OF 'laws.FnExactLeafOf'. -/
def fnExactLeafOfCard : Claim7 := { stood := { row := fnExactLeafOfRow, standIns := [], harness := (true, "71e5a92e6089f9dd29aae4771b610797d70a9293ba0978bfb8f5bb0aac8aba5e"), looks := false }, kinds := [], alts := [], laidByText := true, laidKinds := [.data, .pinned], laidTests := true, laidLooks := .later }
def FnExactLeafOfCardSaid : Prop := Claim7.holds Tryd.pinned (.plain (OpenSpec.ofChange fnExactLeafOfSpec)) fnExactLeafOfCard

/-- THE TIED CARD OF 'laws.FnExactFoldSheet'. -/
def fnExactFoldSheetCard : Claim7 := { stood := { row := fnExactFoldSheetRow, standIns := [], harness := (true, "71e5a92e6089f9dd29aae4771b610797d70a9293ba0978bfb8f5bb0aac8aba5e"), looks := false }, kinds := [], alts := [], laidByText := true, laidKinds := [.data, .pinned], laidTests := true, laidLooks := .later }
def FnExactFoldSheetCardSaid : Prop := Claim7.holds Tryd.pinned (.plain (OpenSpec.ofChange fnExactFoldSheetSpec)) fnExactFoldSheetCard

/-- THE TIED CARD OF 'laws.FnFolded'. -/
def fnFoldedCard : Claim7 := { stood := { row := fnFoldedRow, standIns := [], harness := (true, "71e5a92e6089f9dd29aae4771b610797d70a9293ba0978bfb8f5bb0aac8aba5e"), looks := false }, kinds := [], alts := [], laidByText := true, laidKinds := [.data, .pinned], laidTests := true, laidLooks := .later }
def FnFoldedCardSaid : Prop := Claim7.holds Tryd.pinned (.plain (OpenSpec.ofChange fnFoldedSpec)) fnFoldedCard

/-- THE TIED CARD OF 'laws.FnSchemes'. -/
def fnSchemesCard : Claim7 := { stood := { row := fnSchemesRow, standIns := [], harness := (true, "71e5a92e6089f9dd29aae4771b610797d70a9293ba0978bfb8f5bb0aac8aba5e"), looks := false }, kinds := [], alts := [], laidByText := true, laidKinds := [.data, .pinned], laidTests := true, laidLooks := .later }
def FnSchemesCardSaid : Prop := Claim7.holds Tryd.pinned (.plain (OpenSpec.ofChange fnSchemesSpec)) fnSchemesCard

/-- THE TIED CARD OF 'laws.FnExactImposeSheet'. -/
def fnExactImposeSheetCard : Claim7 := { stood := { row := fnExactImposeSheetRow, standIns := [], harness := (true, "71e5a92e6089f9dd29aae4771b610797d70a9293ba0978bfb8f5bb0aac8aba5e"), looks := false }, kinds := [], alts := [], laidByText := true, laidKinds := [.data, .pinned], laidTests := true, laidLooks := .later }
def FnExactImposeSheetCardSaid : Prop := Claim7.holds Tryd.pinned (.plain (OpenSpec.ofChange fnExactImposeSheetSpec)) fnExactImposeSheetCard

/-- THE SECOND FORM's CARD OF 'laws.FnExactIsScheme'. -/
def fnExactIsSchemeUptoCard : Claim7 := { stood := { row := fnExactIsSchemeUptoRow, standIns := [], harness := (true, "71e5a92e6089f9dd29aae4771b610797d70a9293ba0978bfb8f5bb0aac8aba5e"), looks := false }, kinds := [], alts := [], laidByText := true, laidKinds := [.data, .pinned], laidTests := true, laidLooks := .later }
def FnExactIsSchemeUptoCardSaid : Prop := Claim7.holds Tryd.pinned (.plain (OpenSpec.upto fnExactIsSchemeSpec)) fnExactIsSchemeUptoCard

/-- THE SECOND FORM's CARD OF 'laws.FnExactFacesDown'. -/
def fnExactFacesDownUptoCard : Claim7 := { stood := { row := fnExactFacesDownUptoRow, standIns := [], harness := (true, "71e5a92e6089f9dd29aae4771b610797d70a9293ba0978bfb8f5bb0aac8aba5e"), looks := false }, kinds := [], alts := [], laidByText := true, laidKinds := [.data, .pinned], laidTests := true, laidLooks := .later }
def FnExactFacesDownUptoCardSaid : Prop := Claim7.holds Tryd.pinned (.plain (OpenSpec.upto fnExactFacesDownSpec)) fnExactFacesDownUptoCard

/-- THE SECOND FORM's CARD OF 'laws.FnExactLeafOf'. -/
def fnExactLeafOfUptoCard : Claim7 := { stood := { row := fnExactLeafOfUptoRow, standIns := [], harness := (true, "71e5a92e6089f9dd29aae4771b610797d70a9293ba0978bfb8f5bb0aac8aba5e"), looks := false }, kinds := [], alts := [], laidByText := true, laidKinds := [.data, .pinned], laidTests := true, laidLooks := .later }
def FnExactLeafOfUptoCardSaid : Prop := Claim7.holds Tryd.pinned (.plain (OpenSpec.upto fnExactLeafOfSpec)) fnExactLeafOfUptoCard

/-- THE SECOND FORM's CARD OF 'laws.FnExactFoldSheet'. -/
def fnExactFoldSheetUptoCard : Claim7 := { stood := { row := fnExactFoldSheetUptoRow, standIns := [], harness := (true, "71e5a92e6089f9dd29aae4771b610797d70a9293ba0978bfb8f5bb0aac8aba5e"), looks := false }, kinds := [], alts := [], laidByText := true, laidKinds := [.data, .pinned], laidTests := true, laidLooks := .later }
def FnExactFoldSheetUptoCardSaid : Prop := Claim7.holds Tryd.pinned (.plain (OpenSpec.upto fnExactFoldSheetSpec)) fnExactFoldSheetUptoCard

/-- THE SECOND FORM's CARD OF 'laws.FnFolded'. -/
def fnFoldedUptoCard : Claim7 := { stood := { row := fnFoldedUptoRow, standIns := [], harness := (true, "71e5a92e6089f9dd29aae4771b610797d70a9293ba0978bfb8f5bb0aac8aba5e"), looks := false }, kinds := [], alts := [], laidByText := true, laidKinds := [.data, .pinned], laidTests := true, laidLooks := .later }
def FnFoldedUptoCardSaid : Prop := Claim7.holds Tryd.pinned (.plain (OpenSpec.upto fnFoldedSpec)) fnFoldedUptoCard

/-- THE SECOND FORM's CARD OF 'laws.FnSchemes'. -/
def fnSchemesUptoCard : Claim7 := { stood := { row := fnSchemesUptoRow, standIns := [], harness := (true, "71e5a92e6089f9dd29aae4771b610797d70a9293ba0978bfb8f5bb0aac8aba5e"), looks := false }, kinds := [], alts := [], laidByText := true, laidKinds := [.data, .pinned], laidTests := true, laidLooks := .later }
def FnSchemesUptoCardSaid : Prop := Claim7.holds Tryd.pinned (.plain (OpenSpec.upto fnSchemesSpec)) fnSchemesUptoCard

/-- THE SECOND FORM's CARD OF 'laws.FnExactImposeSheet'. -/
def fnExactImposeSheetUptoCard : Claim7 := { stood := { row := fnExactImposeSheetUptoRow, standIns := [], harness := (true, "71e5a92e6089f9dd29aae4771b610797d70a9293ba0978bfb8f5bb0aac8aba5e"), looks := false }, kinds := [], alts := [], laidByText := true, laidKinds := [.data, .pinned], laidTests := true, laidLooks := .later }
def FnExactImposeSheetUptoCardSaid : Prop := Claim7.holds Tryd.pinned (.plain (OpenSpec.upto fnExactImposeSheetSpec)) fnExactImposeSheetUptoCard
end Rows
end Go.Proofs.YtijbccmcfagnfaaDoor

/-
  DERIVED. GIVEN WITH THE SEED: THE CARDS: each row of YtgnopkapkodhhaaDoorRows.lean that lists a variable, with what it lists TIED to the program's text (the seventh form; the later family's looks); each row that meets fmt, with fmt's text TOLD by the authors' own Lean function (tested against real Go, not proved from fmt's source: count such statements apart). THE CARD IS WHAT COUNTS. Prove the row's statement (the work); the ties are given (YtgnopkapkodhhaaDoorTie.lean); close each card by the builder's one call (the guide's Derived/Test/ToyasCard.lean, 'card_holds'). Laid BY PROGRAM, IN A SANDBOX (cutbox-door.mjs). By AI agents, Wed Nov 11 2026. No macro, syntax, notation, axiom, sorry.
-/
import Derived.Test.YtgnopkapkodhhaaDoorRows
import GoSem.ClaimSeven
namespace Go.Proofs.YtgnopkapkodhhaaDoor
namespace Rows

/-- THE TIED CARD OF 'laws.FnExactLabelOf'. -/
def fnExactLabelOfCard : Claim7 := { stood := { row := fnExactLabelOfRow, standIns := [], harness := (true, "d2116e22c5231819cc9cbfcb9c4359efa0d0642098c2cb4cf9a08c29b58a251d"), looks := false }, kinds := [], alts := [], laidByText := true, laidKinds := [.data, .data, .data], laidTests := true, laidLooks := .later }
def FnExactLabelOfCardSaid : Prop := Claim7.holds Tryd.pinned (.plain (OpenSpec.ofChange fnExactLabelOfSpec)) fnExactLabelOfCard

/-- THE TIED CARD OF 'laws.FnExactPageOfLabel'. -/
def fnExactPageOfLabelCard : Claim7 := { stood := { row := fnExactPageOfLabelRow, standIns := [], harness := (true, "d2116e22c5231819cc9cbfcb9c4359efa0d0642098c2cb4cf9a08c29b58a251d"), looks := false }, kinds := [], alts := [], laidByText := true, laidKinds := [.data, .data, .data], laidTests := true, laidLooks := .later }
def FnExactPageOfLabelCardSaid : Prop := Claim7.holds Tryd.pinned (.plain (OpenSpec.ofChange fnExactPageOfLabelSpec)) fnExactPageOfLabelCard

/-- THE TIED CARD OF 'laws.FnLabels'. -/
def fnLabelsCard : Claim7 := { stood := { row := fnLabelsRow, standIns := [], harness := (true, "d2116e22c5231819cc9cbfcb9c4359efa0d0642098c2cb4cf9a08c29b58a251d"), looks := false }, kinds := [], alts := [], laidByText := true, laidKinds := [.data, .data, .data], laidTests := true, laidLooks := .later }
def FnLabelsCardSaid : Prop := Claim7.holds Tryd.pinned (.plain (OpenSpec.ofChange fnLabelsSpec)) fnLabelsCard

/-- THE SECOND FORM's CARD OF 'laws.FnExactLabelOf'. -/
def fnExactLabelOfUptoCard : Claim7 := { stood := { row := fnExactLabelOfUptoRow, standIns := [], harness := (true, "d2116e22c5231819cc9cbfcb9c4359efa0d0642098c2cb4cf9a08c29b58a251d"), looks := false }, kinds := [], alts := [], laidByText := true, laidKinds := [.data, .data, .data], laidTests := true, laidLooks := .later }
def FnExactLabelOfUptoCardSaid : Prop := Claim7.holds Tryd.pinned (.plain (OpenSpec.upto fnExactLabelOfSpec)) fnExactLabelOfUptoCard

/-- THE SECOND FORM's CARD OF 'laws.FnExactPageOfLabel'. -/
def fnExactPageOfLabelUptoCard : Claim7 := { stood := { row := fnExactPageOfLabelUptoRow, standIns := [], harness := (true, "d2116e22c5231819cc9cbfcb9c4359efa0d0642098c2cb4cf9a08c29b58a251d"), looks := false }, kinds := [], alts := [], laidByText := true, laidKinds := [.data, .data, .data], laidTests := true, laidLooks := .later }
def FnExactPageOfLabelUptoCardSaid : Prop := Claim7.holds Tryd.pinned (.plain (OpenSpec.upto fnExactPageOfLabelSpec)) fnExactPageOfLabelUptoCard

/-- THE SECOND FORM's CARD OF 'laws.FnLabels'. -/
def fnLabelsUptoCard : Claim7 := { stood := { row := fnLabelsUptoRow, standIns := [], harness := (true, "d2116e22c5231819cc9cbfcb9c4359efa0d0642098c2cb4cf9a08c29b58a251d"), looks := false }, kinds := [], alts := [], laidByText := true, laidKinds := [.data, .data, .data], laidTests := true, laidLooks := .later }
def FnLabelsUptoCardSaid : Prop := Claim7.holds Tryd.pinned (.plain (OpenSpec.upto fnLabelsSpec)) fnLabelsUptoCard
end Rows
end Go.Proofs.YtgnopkapkodhhaaDoor

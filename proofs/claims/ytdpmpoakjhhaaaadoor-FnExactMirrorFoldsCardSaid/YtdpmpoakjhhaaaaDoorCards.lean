/-
  DERIVED. GIVEN WITH THE SEED: THE CARDS: each row of YtdpmpoakjhhaaaaDoorRows.lean that lists a variable, with what it lists TIED to the program's text (the seventh form; the later family's looks); each row that meets fmt, with fmt's text TOLD by the authors' own Lean function (tested against real Go, not proved from fmt's source: count such statements apart). THE CARD IS WHAT COUNTS. Prove the row's statement (the work); the ties are given (YtdpmpoakjhhaaaaDoorTie.lean); close each card by the builder's one call (the guide's Derived/Test/ToyasCard.lean, 'card_holds'). Laid BY PROGRAM, IN A SANDBOX (cutbox-door.mjs). By AI agents, Wed Nov 11 2026. No macro, syntax, notation, axiom, sorry.
-/
import Derived.Test.YtdpmpoakjhhaaaaDoorRows
import GoSem.ClaimSeven
namespace Go.Proofs.YtdpmpoakjhhaaaaDoor
namespace Rows

/-- THE TIED CARD OF 'laws.FnStrips'. -/
def fnStripsCard : Claim7 := { stood := { row := fnStripsRow, standIns := [], harness := (true, "ae50b9305602bc4b60ce4bf3fcdd9cfc1e60ccb45fe02b333dda70a735c77585"), looks := true }, kinds := [], alts := [], laidByText := true, laidKinds := [.data, .pinned], laidTests := true, laidLooks := .later }
def FnStripsCardSaid : Prop := Claim7.holds Tryd.pinned (.plain (OpenSpec.ofChange fnStripsSpec)) fnStripsCard

/-- THE TIED CARD OF 'laws.FnExactMirrorFolds'. -/
def fnExactMirrorFoldsCard : Claim7 := { stood := { row := fnExactMirrorFoldsRow, standIns := [], harness := (true, "ae50b9305602bc4b60ce4bf3fcdd9cfc1e60ccb45fe02b333dda70a735c77585"), looks := true }, kinds := [], alts := [], laidByText := true, laidKinds := [.data, .pinned], laidTests := true, laidLooks := .later }
def FnExactMirrorFoldsCardSaid : Prop := Claim7.holds Tryd.pinned (.plain (OpenSpec.ofChange fnExactMirrorFoldsSpec)) fnExactMirrorFoldsCard

/-- THE SECOND FORM's CARD OF 'laws.FnStrips'. -/
def fnStripsUptoCard : Claim7 := { stood := { row := fnStripsUptoRow, standIns := [], harness := (true, "ae50b9305602bc4b60ce4bf3fcdd9cfc1e60ccb45fe02b333dda70a735c77585"), looks := true }, kinds := [], alts := [], laidByText := true, laidKinds := [.data, .pinned], laidTests := true, laidLooks := .later }
def FnStripsUptoCardSaid : Prop := Claim7.holds Tryd.pinned (.plain (OpenSpec.upto fnStripsSpec)) fnStripsUptoCard

/-- THE SECOND FORM's CARD OF 'laws.FnExactMirrorFolds'. -/
def fnExactMirrorFoldsUptoCard : Claim7 := { stood := { row := fnExactMirrorFoldsUptoRow, standIns := [], harness := (true, "ae50b9305602bc4b60ce4bf3fcdd9cfc1e60ccb45fe02b333dda70a735c77585"), looks := true }, kinds := [], alts := [], laidByText := true, laidKinds := [.data, .pinned], laidTests := true, laidLooks := .later }
def FnExactMirrorFoldsUptoCardSaid : Prop := Claim7.holds Tryd.pinned (.plain (OpenSpec.upto fnExactMirrorFoldsSpec)) fnExactMirrorFoldsUptoCard
end Rows
end Go.Proofs.YtdpmpoakjhhaaaaDoor

/-
  DERIVED. GIVEN WITH THE SEED: THE CARDS: each row of YtjlklieoibhblaaDoorRows.lean that lists a variable, with what it lists TIED to the program's text (the seventh form; the later family's looks); each row that meets fmt, with fmt's text TOLD by the authors' own Lean function (tested against real Go, not proved from fmt's source: count such statements apart). THE CARD IS WHAT COUNTS. Prove the row's statement (the work); the ties are given (YtjlklieoibhblaaDoorTie.lean); close each card by the builder's one call (the guide's Derived/Test/ToyasCard.lean, 'card_holds'). Laid BY PROGRAM, IN A SANDBOX (cutbox-door.mjs). By AI agents, Wed Nov 11 2026. No macro, syntax, notation, axiom, sorry.
-/
import Derived.Test.YtjlklieoibhblaaDoorRows
import GoSem.ClaimSeven
namespace Go.Proofs.YtjlklieoibhblaaDoor
namespace Rows

/-- THE TIED CARD OF 'laws.FnExactCreasesOf'. -/
def fnExactCreasesOfCard : Claim7 := { stood := { row := fnExactCreasesOfRow, standIns := [], harness := (true, "466ec0fa315344f18fc2afdc4e0f78da522ba9ae073929793943f29e4824bae9"), looks := true }, kinds := [], alts := [], laidByText := true, laidKinds := [.data, .pinned], laidTests := true, laidLooks := .later }
def FnExactCreasesOfCardSaid : Prop := Claim7.holds Tryd.pinned (.plain (OpenSpec.ofChange fnExactCreasesOfSpec)) fnExactCreasesOfCard

/-- THE TIED CARD OF 'laws.FnExactCountFaces'. -/
def fnExactCountFacesCard : Claim7 := { stood := { row := fnExactCountFacesRow, standIns := [], harness := (true, "466ec0fa315344f18fc2afdc4e0f78da522ba9ae073929793943f29e4824bae9"), looks := true }, kinds := [], alts := [], laidByText := true, laidKinds := [.data, .pinned], laidTests := true, laidLooks := .later }
def FnExactCountFacesCardSaid : Prop := Claim7.holds Tryd.pinned (.plain (OpenSpec.ofChange fnExactCountFacesSpec)) fnExactCountFacesCard

/-- THE TIED CARD OF 'laws.FnExactPlaceOf'. -/
def fnExactPlaceOfCard : Claim7 := { stood := { row := fnExactPlaceOfRow, standIns := [], harness := (true, "466ec0fa315344f18fc2afdc4e0f78da522ba9ae073929793943f29e4824bae9"), looks := true }, kinds := [], alts := [], laidByText := true, laidKinds := [.data, .pinned], laidTests := true, laidLooks := .later }
def FnExactPlaceOfCardSaid : Prop := Claim7.holds Tryd.pinned (.plain (OpenSpec.ofChange fnExactPlaceOfSpec)) fnExactPlaceOfCard

/-- THE TIED CARD OF 'laws.FnExactFoldStrip'. -/
def fnExactFoldStripCard : Claim7 := { stood := { row := fnExactFoldStripRow, standIns := [], harness := (true, "466ec0fa315344f18fc2afdc4e0f78da522ba9ae073929793943f29e4824bae9"), looks := true }, kinds := [], alts := [], laidByText := true, laidKinds := [.data, .pinned], laidTests := true, laidLooks := .later }
def FnExactFoldStripCardSaid : Prop := Claim7.holds Tryd.pinned (.plain (OpenSpec.ofChange fnExactFoldStripSpec)) fnExactFoldStripCard

/-- THE TIED CARD OF 'laws.FnCreases'. -/
def fnCreasesCard : Claim7 := { stood := { row := fnCreasesRow, standIns := [], harness := (true, "466ec0fa315344f18fc2afdc4e0f78da522ba9ae073929793943f29e4824bae9"), looks := true }, kinds := [], alts := [], laidByText := true, laidKinds := [.data, .pinned], laidTests := true, laidLooks := .later }
def FnCreasesCardSaid : Prop := Claim7.holds Tryd.pinned (.plain (OpenSpec.ofChange fnCreasesSpec)) fnCreasesCard

/-- THE TIED CARD OF 'laws.FnExactMirrorFolds'. -/
def fnExactMirrorFoldsCard : Claim7 := { stood := { row := fnExactMirrorFoldsRow, standIns := [], harness := (true, "466ec0fa315344f18fc2afdc4e0f78da522ba9ae073929793943f29e4824bae9"), looks := true }, kinds := [], alts := [], laidByText := true, laidKinds := [.data, .pinned], laidTests := true, laidLooks := .later }
def FnExactMirrorFoldsCardSaid : Prop := Claim7.holds Tryd.pinned (.plain (OpenSpec.ofChange fnExactMirrorFoldsSpec)) fnExactMirrorFoldsCard

/-- THE TIED CARD OF 'laws.FnStrips'. -/
def fnStripsCard : Claim7 := { stood := { row := fnStripsRow, standIns := [], harness := (true, "466ec0fa315344f18fc2afdc4e0f78da522ba9ae073929793943f29e4824bae9"), looks := true }, kinds := [], alts := [], laidByText := true, laidKinds := [.data, .pinned], laidTests := true, laidLooks := .later }
def FnStripsCardSaid : Prop := Claim7.holds Tryd.pinned (.plain (OpenSpec.ofChange fnStripsSpec)) fnStripsCard

/-- THE SECOND FORM's CARD OF 'laws.FnExactCreasesOf'. -/
def fnExactCreasesOfUptoCard : Claim7 := { stood := { row := fnExactCreasesOfUptoRow, standIns := [], harness := (true, "466ec0fa315344f18fc2afdc4e0f78da522ba9ae073929793943f29e4824bae9"), looks := true }, kinds := [], alts := [], laidByText := true, laidKinds := [.data, .pinned], laidTests := true, laidLooks := .later }
def FnExactCreasesOfUptoCardSaid : Prop := Claim7.holds Tryd.pinned (.plain (OpenSpec.upto fnExactCreasesOfSpec)) fnExactCreasesOfUptoCard

/-- THE SECOND FORM's CARD OF 'laws.FnExactCountFaces'. -/
def fnExactCountFacesUptoCard : Claim7 := { stood := { row := fnExactCountFacesUptoRow, standIns := [], harness := (true, "466ec0fa315344f18fc2afdc4e0f78da522ba9ae073929793943f29e4824bae9"), looks := true }, kinds := [], alts := [], laidByText := true, laidKinds := [.data, .pinned], laidTests := true, laidLooks := .later }
def FnExactCountFacesUptoCardSaid : Prop := Claim7.holds Tryd.pinned (.plain (OpenSpec.upto fnExactCountFacesSpec)) fnExactCountFacesUptoCard

/-- THE SECOND FORM's CARD OF 'laws.FnExactPlaceOf'. -/
def fnExactPlaceOfUptoCard : Claim7 := { stood := { row := fnExactPlaceOfUptoRow, standIns := [], harness := (true, "466ec0fa315344f18fc2afdc4e0f78da522ba9ae073929793943f29e4824bae9"), looks := true }, kinds := [], alts := [], laidByText := true, laidKinds := [.data, .pinned], laidTests := true, laidLooks := .later }
def FnExactPlaceOfUptoCardSaid : Prop := Claim7.holds Tryd.pinned (.plain (OpenSpec.upto fnExactPlaceOfSpec)) fnExactPlaceOfUptoCard

/-- THE SECOND FORM's CARD OF 'laws.FnExactFoldStrip'. -/
def fnExactFoldStripUptoCard : Claim7 := { stood := { row := fnExactFoldStripUptoRow, standIns := [], harness := (true, "466ec0fa315344f18fc2afdc4e0f78da522ba9ae073929793943f29e4824bae9"), looks := true }, kinds := [], alts := [], laidByText := true, laidKinds := [.data, .pinned], laidTests := true, laidLooks := .later }
def FnExactFoldStripUptoCardSaid : Prop := Claim7.holds Tryd.pinned (.plain (OpenSpec.upto fnExactFoldStripSpec)) fnExactFoldStripUptoCard

/-- THE SECOND FORM's CARD OF 'laws.FnCreases'. -/
def fnCreasesUptoCard : Claim7 := { stood := { row := fnCreasesUptoRow, standIns := [], harness := (true, "466ec0fa315344f18fc2afdc4e0f78da522ba9ae073929793943f29e4824bae9"), looks := true }, kinds := [], alts := [], laidByText := true, laidKinds := [.data, .pinned], laidTests := true, laidLooks := .later }
def FnCreasesUptoCardSaid : Prop := Claim7.holds Tryd.pinned (.plain (OpenSpec.upto fnCreasesSpec)) fnCreasesUptoCard

/-- THE SECOND FORM's CARD OF 'laws.FnExactMirrorFolds'. -/
def fnExactMirrorFoldsUptoCard : Claim7 := { stood := { row := fnExactMirrorFoldsUptoRow, standIns := [], harness := (true, "466ec0fa315344f18fc2afdc4e0f78da522ba9ae073929793943f29e4824bae9"), looks := true }, kinds := [], alts := [], laidByText := true, laidKinds := [.data, .pinned], laidTests := true, laidLooks := .later }
def FnExactMirrorFoldsUptoCardSaid : Prop := Claim7.holds Tryd.pinned (.plain (OpenSpec.upto fnExactMirrorFoldsSpec)) fnExactMirrorFoldsUptoCard

/-- THE SECOND FORM's CARD OF 'laws.FnStrips'. -/
def fnStripsUptoCard : Claim7 := { stood := { row := fnStripsUptoRow, standIns := [], harness := (true, "466ec0fa315344f18fc2afdc4e0f78da522ba9ae073929793943f29e4824bae9"), looks := true }, kinds := [], alts := [], laidByText := true, laidKinds := [.data, .pinned], laidTests := true, laidLooks := .later }
def FnStripsUptoCardSaid : Prop := Claim7.holds Tryd.pinned (.plain (OpenSpec.upto fnStripsSpec)) fnStripsUptoCard
end Rows
end Go.Proofs.YtjlklieoibhblaaDoor

/-
  DERIVED. GIVEN WITH THE SEED: THE CARDS: each row of YtgleecemgobneaaDoorRows.lean that lists a variable, with what it lists TIED to the program's text (the seventh form; the later family's looks); each row that meets fmt, with fmt's text TOLD by the authors' own Lean function (tested against real Go, not proved from fmt's source: count such statements apart). THE CARD IS WHAT COUNTS. Prove the row's statement (the work); the ties are given (YtgleecemgobneaaDoorTie.lean); close each card by the builder's one call (the guide's Derived/Test/ToyasCard.lean, 'card_holds'). Laid BY PROGRAM, IN A SANDBOX (cutbox-door.mjs). By AI agents, Wed Nov 11 2026. No macro, syntax, notation, axiom, sorry.
-/
import Derived.Test.YtgleecemgobneaaDoorRows
import GoSem.ClaimSeven
namespace Go.Proofs.YtgleecemgobneaaDoor
namespace Rows

/-- THE TIED CARD OF 'laws.FnExactReadLength'. -/
def fnExactReadLengthCard : Claim7 := { stood := { row := fnExactReadLengthRow, standIns := [], harness := (true, "fb47696db3709f9c5cb5a1e342a1fcbca41dd55e4f0adab59bba951caa70f0be"), looks := true }, kinds := [], alts := [], laidByText := true, laidKinds := [.data, .data, .data, .sentinel, .sentinel], laidTests := true, laidLooks := .later }
def FnExactReadLengthCardSaid : Prop := Claim7.holds Tryd.pinned (.plain (OpenSpec.ofChange fnExactReadLengthSpec)) fnExactReadLengthCard

/-- THE TIED CARD OF 'laws.FnExactLengthText'. -/
def fnExactLengthTextCard : Claim7 := { stood := { row := fnExactLengthTextRow, standIns := [], harness := (true, "fb47696db3709f9c5cb5a1e342a1fcbca41dd55e4f0adab59bba951caa70f0be"), looks := true }, kinds := [], alts := [], laidByText := true, laidKinds := [.data, .data, .data], laidTests := true, laidLooks := .later }
def FnExactLengthTextCardSaid : Prop := Claim7.holds Tryd.pinned (.plain (OpenSpec.ofChange fnExactLengthTextSpec)) fnExactLengthTextCard

/-- THE TIED CARD OF 'laws.FnLengths'. -/
def fnLengthsCard : Claim7 := { stood := { row := fnLengthsRow, standIns := [], harness := (true, "fb47696db3709f9c5cb5a1e342a1fcbca41dd55e4f0adab59bba951caa70f0be"), looks := true }, kinds := [], alts := [], laidByText := true, laidKinds := [.data, .data, .data, .sentinel, .sentinel], laidTests := true, laidLooks := .later }
def FnLengthsCardSaid : Prop := Claim7.holds Tryd.pinned (.plain (OpenSpec.ofChange fnLengthsSpec)) fnLengthsCard

/-- THE SECOND FORM's CARD OF 'laws.FnExactReadLength'. -/
def fnExactReadLengthUptoCard : Claim7 := { stood := { row := fnExactReadLengthUptoRow, standIns := [], harness := (true, "fb47696db3709f9c5cb5a1e342a1fcbca41dd55e4f0adab59bba951caa70f0be"), looks := true }, kinds := [], alts := [], laidByText := true, laidKinds := [.data, .data, .data, .sentinel, .sentinel], laidTests := true, laidLooks := .later }
def FnExactReadLengthUptoCardSaid : Prop := Claim7.holds Tryd.pinned (.plain (OpenSpec.upto fnExactReadLengthSpec)) fnExactReadLengthUptoCard

/-- THE SECOND FORM's CARD OF 'laws.FnExactLengthText'. -/
def fnExactLengthTextUptoCard : Claim7 := { stood := { row := fnExactLengthTextUptoRow, standIns := [], harness := (true, "fb47696db3709f9c5cb5a1e342a1fcbca41dd55e4f0adab59bba951caa70f0be"), looks := true }, kinds := [], alts := [], laidByText := true, laidKinds := [.data, .data, .data], laidTests := true, laidLooks := .later }
def FnExactLengthTextUptoCardSaid : Prop := Claim7.holds Tryd.pinned (.plain (OpenSpec.upto fnExactLengthTextSpec)) fnExactLengthTextUptoCard

/-- THE SECOND FORM's CARD OF 'laws.FnLengths'. -/
def fnLengthsUptoCard : Claim7 := { stood := { row := fnLengthsUptoRow, standIns := [], harness := (true, "fb47696db3709f9c5cb5a1e342a1fcbca41dd55e4f0adab59bba951caa70f0be"), looks := true }, kinds := [], alts := [], laidByText := true, laidKinds := [.data, .data, .data, .sentinel, .sentinel], laidTests := true, laidLooks := .later }
def FnLengthsUptoCardSaid : Prop := Claim7.holds Tryd.pinned (.plain (OpenSpec.upto fnLengthsSpec)) fnLengthsUptoCard
end Rows
end Go.Proofs.YtgleecemgobneaaDoor

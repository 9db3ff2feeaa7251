/-
  NARROWER THAN 'FOR EVERY INPUT', by the rows' own cells (each row's printed sentence says how): FnExactIsScheme: laid · FnExactFacesDown: laid · FnExactLeafOf: laid · FnExactFoldSheet: laid · FnFolded: laid · FnSchemes: laid · FnExactImposeSheet: laid.
  DERIVED. THE GIVEN ROWS OF THIS SEAT. 7 by the template 'for every input the law returns true; each argument reads behind the call as it read before'; 0 by the template 'total and deterministic' (their statements: YtijbccmcfagnfaaDoorTotals.lean).
  GIVEN WITH THE SEED: the statements are not yours to turn. If you find one false, say at which input.
  Laid BY PROGRAM, IN A SANDBOX (cutbox-rows.mjs): the forced cells as the released guide's own fill.sh prints them over the translation 14b74a9e5c45bd34… (all of the seat's roots in one cut). By AI agents, Wed Nov 11 2026. No macro, syntax, notation, axiom, sorry.
-/
import Derived.Test.YtijbccmcfagnfaaDoorChecked
import GoSem.PinnedTables
import GoSem.Claim
import GoSem.ClaimJoined
import GoSem.ClaimMapViews
import Derived.JoinedTies
import Derived.KernelRfl
namespace Go.Proofs.YtijbccmcfagnfaaDoor
/- THE CELL 'sum', in the pinned program and in every row, IS THE sha256 OF THE DUMP (.gsa) THAT YtijbccmcfagnfaaDoorProg.lean LOADS. Nothing in Lean hashes anything: it is a label: what it is worth is what the hold of that sum in a sandbox is worth. -/
noncomputable def Tryd.pinned : Pinned := { name := "ytijbccmcfagnfaadoor", sum := "14b74a9e5c45bd343a45ac6489a909cdd82a50ca304205c7863316056c6d87da", checked := Tryd.checked }
namespace Rows
def none {H : Type} : Left H := { results := [], args := [] }

/- WHAT THE LISTED PACKAGE-LEVEL VARIABLES READ AS WHEN THE CALL BEGINS. Each datum BY PROGRAM (the guide's laid-datum.mjs) off the statement by which the dump's own 'gosem.cut.vars' lays the variable. In a bare row this is a premise. The card (YtijbccmcfagnfaaDoorCards.lean) ties it to the program's text. -/
def laid_unicode_utf8_acceptRanges {H : Type} : DataW H := .agg [.agg [.lit (.int .u8 128), .lit (.int .u8 191)], .agg [.lit (.int .u8 160), .lit (.int .u8 191)], .agg [.lit (.int .u8 128), .lit (.int .u8 159)], .agg [.lit (.int .u8 144), .lit (.int .u8 191)], .agg [.lit (.int .u8 128), .lit (.int .u8 143)], .agg [.lit (.int .u8 0), .lit (.int .u8 0)], .agg [.lit (.int .u8 0), .lit (.int .u8 0)], .agg [.lit (.int .u8 0), .lit (.int .u8 0)], .agg [.lit (.int .u8 0), .lit (.int .u8 0)], .agg [.lit (.int .u8 0), .lit (.int .u8 0)], .agg [.lit (.int .u8 0), .lit (.int .u8 0)], .agg [.lit (.int .u8 0), .lit (.int .u8 0)], .agg [.lit (.int .u8 0), .lit (.int .u8 0)], .agg [.lit (.int .u8 0), .lit (.int .u8 0)], .agg [.lit (.int .u8 0), .lit (.int .u8 0)], .agg [.lit (.int .u8 0), .lit (.int .u8 0)]]
/-- One of Go's own tables, pinned by name: the form's constant. -/
def laid_unicode_utf8_first : DataW Unit := Go.Pinned.utf8First

/-- 'laws.FnExactIsScheme': WHATEVER THE INPUT: true; the input reads as it did. -/
def fnExactIsSchemeSpec : ChangeSpec := { name := "fnExactIsScheme", fn := fun _ => fun
  | [d1, d2, d3] => { results := [.lit (.bool true)], args := [d1, d2, d3] }
  | _ => none }
def fnExactIsSchemeRow : OpenClaim := { program := "ytijbccmcfagnfaadoor", sum := "14b74a9e5c45bd343a45ac6489a909cdd82a50ca304205c7863316056c6d87da", func := "loop.example/g00944/laws.FnExactIsScheme", spec := "fnExactIsScheme", inPlace := ["internal/bytealg.IndexByteString", "internal/bytealg.IndexString", "internal/bytealg.CountString"], named := ["unicode/utf8.first", "unicode/utf8.acceptRanges", "internal/bytealg.MaxLen"], apart := false, laid := [("unicode/utf8.acceptRanges", laid_unicode_utf8_acceptRanges), ("unicode/utf8.first", laid_unicode_utf8_first)] }
def FnExactIsSchemeSaid : Prop := fnExactIsSchemeRow.holds Tryd.pinned (OpenSpec.ofChange fnExactIsSchemeSpec)

/-- ITS FALSE NEIGHBOUR: 'it returns false'. Refute it at one input. -/
def fnExactIsSchemeWrong : ChangeSpec := { name := "fnExactIsScheme", fn := fun _ => fun
  | [d1, d2, d3] => { results := [.lit (.bool false)], args := [d1, d2, d3] }
  | _ => none }
def FnExactIsSchemeWrongFalsely : Prop := fnExactIsSchemeRow.holds Tryd.pinned (OpenSpec.ofChange fnExactIsSchemeWrong)

/-- 'laws.FnExactFacesDown': WHATEVER THE INPUT: true; the input reads as it did. -/
def fnExactFacesDownSpec : ChangeSpec := { name := "fnExactFacesDown", fn := fun _ => fun
  | [d1, d2, d3] => { results := [.lit (.bool true)], args := [d1, d2, d3] }
  | _ => none }
def fnExactFacesDownRow : OpenClaim := { program := "ytijbccmcfagnfaadoor", sum := "14b74a9e5c45bd343a45ac6489a909cdd82a50ca304205c7863316056c6d87da", func := "loop.example/g00944/laws.FnExactFacesDown", spec := "fnExactFacesDown", inPlace := ["internal/bytealg.IndexByteString", "internal/bytealg.IndexString", "internal/bytealg.CountString"], unfollowed := true, recurses := true, named := ["unicode/utf8.first", "unicode/utf8.acceptRanges", "internal/bytealg.MaxLen"], apart := false, laid := [("unicode/utf8.acceptRanges", laid_unicode_utf8_acceptRanges), ("unicode/utf8.first", laid_unicode_utf8_first)] }
def FnExactFacesDownSaid : Prop := fnExactFacesDownRow.holds Tryd.pinned (OpenSpec.ofChange fnExactFacesDownSpec)

/-- ITS FALSE NEIGHBOUR: 'it returns false'. Refute it at one input. -/
def fnExactFacesDownWrong : ChangeSpec := { name := "fnExactFacesDown", fn := fun _ => fun
  | [d1, d2, d3] => { results := [.lit (.bool false)], args := [d1, d2, d3] }
  | _ => none }
def FnExactFacesDownWrongFalsely : Prop := fnExactFacesDownRow.holds Tryd.pinned (OpenSpec.ofChange fnExactFacesDownWrong)

/-- 'laws.FnExactLeafOf': WHATEVER THE INPUT: true; the input reads as it did. -/
def fnExactLeafOfSpec : ChangeSpec := { name := "fnExactLeafOf", fn := fun _ => fun
  | [d1, d2, d3, d4, d5] => { results := [.lit (.bool true)], args := [d1, d2, d3, d4, d5] }
  | _ => none }
def fnExactLeafOfRow : OpenClaim := { program := "ytijbccmcfagnfaadoor", sum := "14b74a9e5c45bd343a45ac6489a909cdd82a50ca304205c7863316056c6d87da", func := "loop.example/g00944/laws.FnExactLeafOf", spec := "fnExactLeafOf", inPlace := ["internal/bytealg.IndexByteString", "internal/bytealg.IndexString", "internal/bytealg.CountString"], unfollowed := true, recurses := true, named := ["unicode/utf8.first", "unicode/utf8.acceptRanges", "internal/bytealg.MaxLen"], apart := false, laid := [("unicode/utf8.acceptRanges", laid_unicode_utf8_acceptRanges), ("unicode/utf8.first", laid_unicode_utf8_first)] }
def FnExactLeafOfSaid : Prop := fnExactLeafOfRow.holds Tryd.pinned (OpenSpec.ofChange fnExactLeafOfSpec)

/-- ITS FALSE NEIGHBOUR: 'it returns false'. Refute it at one input. -/
def fnExactLeafOfWrong : ChangeSpec := { name := "fnExactLeafOf", fn := fun _ => fun
  | [d1, d2, d3, d4, d5] => { results := [.lit (.bool false)], args := [d1, d2, d3, d4, d5] }
  | _ => none }
def FnExactLeafOfWrongFalsely : Prop := fnExactLeafOfRow.holds Tryd.pinned (OpenSpec.ofChange fnExactLeafOfWrong)

/-- 'laws.FnExactFoldSheet': WHATEVER THE INPUT: true; the input reads as it did. -/
def fnExactFoldSheetSpec : ChangeSpec := { name := "fnExactFoldSheet", fn := fun _ => fun
  | [d1, d2, d3] => { results := [.lit (.bool true)], args := [d1, d2, d3] }
  | _ => none }
def fnExactFoldSheetRow : OpenClaim := { program := "ytijbccmcfagnfaadoor", sum := "14b74a9e5c45bd343a45ac6489a909cdd82a50ca304205c7863316056c6d87da", func := "loop.example/g00944/laws.FnExactFoldSheet", spec := "fnExactFoldSheet", inPlace := ["internal/bytealg.IndexByteString", "internal/bytealg.IndexString", "internal/bytealg.CountString"], unfollowed := true, recurses := true, named := ["unicode/utf8.first", "unicode/utf8.acceptRanges", "internal/bytealg.MaxLen"], apart := false, laid := [("unicode/utf8.acceptRanges", laid_unicode_utf8_acceptRanges), ("unicode/utf8.first", laid_unicode_utf8_first)] }
def FnExactFoldSheetSaid : Prop := fnExactFoldSheetRow.holds Tryd.pinned (OpenSpec.ofChange fnExactFoldSheetSpec)

/-- ITS FALSE NEIGHBOUR: 'it returns false'. Refute it at one input. -/
def fnExactFoldSheetWrong : ChangeSpec := { name := "fnExactFoldSheet", fn := fun _ => fun
  | [d1, d2, d3] => { results := [.lit (.bool false)], args := [d1, d2, d3] }
  | _ => none }
def FnExactFoldSheetWrongFalsely : Prop := fnExactFoldSheetRow.holds Tryd.pinned (OpenSpec.ofChange fnExactFoldSheetWrong)

/-- 'laws.FnFolded': WHATEVER THE INPUT: true; the input reads as it did. -/
def fnFoldedSpec : ChangeSpec := { name := "fnFolded", fn := fun _ => fun
  | [d] => { results := [.lit (.bool true)], args := [d] }
  | _ => none }
def fnFoldedRow : OpenClaim := { program := "ytijbccmcfagnfaadoor", sum := "14b74a9e5c45bd343a45ac6489a909cdd82a50ca304205c7863316056c6d87da", func := "loop.example/g00944/laws.FnFolded", spec := "fnFolded", inPlace := ["internal/bytealg.IndexByteString", "internal/bytealg.IndexString", "internal/bytealg.CountString"], unfollowed := true, recurses := true, named := ["unicode/utf8.first", "unicode/utf8.acceptRanges", "internal/bytealg.MaxLen"], apart := false, laid := [("unicode/utf8.acceptRanges", laid_unicode_utf8_acceptRanges), ("unicode/utf8.first", laid_unicode_utf8_first)] }
def FnFoldedSaid : Prop := fnFoldedRow.holds Tryd.pinned (OpenSpec.ofChange fnFoldedSpec)

/-- ITS FALSE NEIGHBOUR: 'it returns false'. Refute it at one input. -/
def fnFoldedWrong : ChangeSpec := { name := "fnFolded", fn := fun _ => fun
  | [d] => { results := [.lit (.bool false)], args := [d] }
  | _ => none }
def FnFoldedWrongFalsely : Prop := fnFoldedRow.holds Tryd.pinned (OpenSpec.ofChange fnFoldedWrong)

/-- 'laws.FnSchemes': WHATEVER THE INPUT: true; the input reads as it did. -/
def fnSchemesSpec : ChangeSpec := { name := "fnSchemes", fn := fun _ => fun
  | [d] => { results := [.lit (.bool true)], args := [d] }
  | _ => none }
def fnSchemesRow : OpenClaim := { program := "ytijbccmcfagnfaadoor", sum := "14b74a9e5c45bd343a45ac6489a909cdd82a50ca304205c7863316056c6d87da", func := "loop.example/g00944/laws.FnSchemes", spec := "fnSchemes", inPlace := ["internal/bytealg.IndexByteString", "internal/bytealg.IndexString", "internal/bytealg.CountString"], unfollowed := true, recurses := true, named := ["unicode/utf8.first", "unicode/utf8.acceptRanges", "internal/bytealg.MaxLen"], apart := false, laid := [("unicode/utf8.acceptRanges", laid_unicode_utf8_acceptRanges), ("unicode/utf8.first", laid_unicode_utf8_first)] }
def FnSchemesSaid : Prop := fnSchemesRow.holds Tryd.pinned (OpenSpec.ofChange fnSchemesSpec)

/-- ITS FALSE NEIGHBOUR: 'it returns false'. Refute it at one input. -/
def fnSchemesWrong : ChangeSpec := { name := "fnSchemes", fn := fun _ => fun
  | [d] => { results := [.lit (.bool false)], args := [d] }
  | _ => none }
def FnSchemesWrongFalsely : Prop := fnSchemesRow.holds Tryd.pinned (OpenSpec.ofChange fnSchemesWrong)

/-- 'laws.FnExactImposeSheet': WHATEVER THE INPUT: true; the input reads as it did. -/
def fnExactImposeSheetSpec : ChangeSpec := { name := "fnExactImposeSheet", fn := fun _ => fun
  | [d1, d2, d3] => { results := [.lit (.bool true)], args := [d1, d2, d3] }
  | _ => none }
def fnExactImposeSheetRow : OpenClaim := { program := "ytijbccmcfagnfaadoor", sum := "14b74a9e5c45bd343a45ac6489a909cdd82a50ca304205c7863316056c6d87da", func := "loop.example/g00944/laws.FnExactImposeSheet", spec := "fnExactImposeSheet", inPlace := ["internal/bytealg.IndexByteString", "internal/bytealg.IndexString", "internal/bytealg.CountString"], unfollowed := true, recurses := true, named := ["unicode/utf8.first", "unicode/utf8.acceptRanges", "internal/bytealg.MaxLen"], apart := false, laid := [("unicode/utf8.acceptRanges", laid_unicode_utf8_acceptRanges), ("unicode/utf8.first", laid_unicode_utf8_first)] }
def FnExactImposeSheetSaid : Prop := fnExactImposeSheetRow.holds Tryd.pinned (OpenSpec.ofChange fnExactImposeSheetSpec)

/-- ITS FALSE NEIGHBOUR: 'it returns false'. Refute it at one input. -/
def fnExactImposeSheetWrong : ChangeSpec := { name := "fnExactImposeSheet", fn := fun _ => fun
  | [d1, d2, d3] => { results := [.lit (.bool false)], args := [d1, d2, d3] }
  | _ => none }
def FnExactImposeSheetWrongFalsely : Prop := fnExactImposeSheetRow.holds Tryd.pinned (OpenSpec.ofChange fnExactImposeSheetWrong)

/- THE SECOND FORM. 'bulk': how many values and letters a reading holds, each counted each time it is reached (what is shared counts as often as it is met; a slice's spare places count too). A statement '..UptoSaid' is the law's where the arguments, and the package variables that the reading takes, are together of bulk at most 1048576: NARROWER than '..Said'. Prove '..Said' where nothing that the law and all that it calls make is longer than what came in: it says more and counts as full. Else prove '..UptoSaid'. A law counts once. -/
mutual
def uptoBulk {H : Type} : DataW H → Nat
  | .lit (.string bytes) => bytes.length + 1
  | .lit _ => 1
  | .nil => 1
  | .ptr d => uptoBulk d + 1
  | .slice elems spare => uptoBulkAll elems + uptoBulkAll spare + 1
  | .agg parts => uptoBulkAll parts + 1
  | .iface _ d => uptoBulk d + 1
  | .map entries => uptoBulkEntries entries + 1
  | .held _ => 1
def uptoBulkAll {H : Type} : List (DataW H) → Nat
  | [] => 0
  | d :: r => uptoBulk d + uptoBulkAll r
def uptoBulkEntries {H : Type} : List (Lit × DataW H) → Nat
  | [] => 0
  | x :: r => uptoBulkEntry x + uptoBulkEntries r
def uptoBulkEntry {H : Type} : Lit × DataW H → Nat
  | (.string bytes, d) => bytes.length + uptoBulk d + 1
  | (_, d) => uptoBulk d + 1
 end
def uptoSmall : (H : Type) → List (DataW H) → Bool := fun _ ds => decide (uptoBulkAll ds ≤ 1048576)
def OpenSpec.upto (s : _root_.Go.ChangeSpec) : _root_.Go.OpenSpec := { _root_.Go.OpenSpec.ofChange s with cond := some uptoSmall }

/-- 'laws.FnExactIsScheme', WHERE WHAT IT READS IS OF BULK AT MOST 1048576: true; the input reads as it did. -/
def fnExactIsSchemeUptoRow : OpenClaim := { program := "ytijbccmcfagnfaadoor", sum := "14b74a9e5c45bd343a45ac6489a909cdd82a50ca304205c7863316056c6d87da", func := "loop.example/g00944/laws.FnExactIsScheme", spec := "fnExactIsScheme", inPlace := ["internal/bytealg.IndexByteString", "internal/bytealg.IndexString", "internal/bytealg.CountString"], named := ["unicode/utf8.first", "unicode/utf8.acceptRanges", "internal/bytealg.MaxLen"], apart := false, laid := [("unicode/utf8.acceptRanges", laid_unicode_utf8_acceptRanges), ("unicode/utf8.first", laid_unicode_utf8_first)], narrowed := true }
def FnExactIsSchemeUptoSaid : Prop := fnExactIsSchemeUptoRow.holds Tryd.pinned (OpenSpec.upto fnExactIsSchemeSpec)

/-- 'laws.FnExactFacesDown', WHERE WHAT IT READS IS OF BULK AT MOST 1048576: true; the input reads as it did. -/
def fnExactFacesDownUptoRow : OpenClaim := { program := "ytijbccmcfagnfaadoor", sum := "14b74a9e5c45bd343a45ac6489a909cdd82a50ca304205c7863316056c6d87da", func := "loop.example/g00944/laws.FnExactFacesDown", spec := "fnExactFacesDown", inPlace := ["internal/bytealg.IndexByteString", "internal/bytealg.IndexString", "internal/bytealg.CountString"], unfollowed := true, recurses := true, named := ["unicode/utf8.first", "unicode/utf8.acceptRanges", "internal/bytealg.MaxLen"], apart := false, laid := [("unicode/utf8.acceptRanges", laid_unicode_utf8_acceptRanges), ("unicode/utf8.first", laid_unicode_utf8_first)], narrowed := true }
def FnExactFacesDownUptoSaid : Prop := fnExactFacesDownUptoRow.holds Tryd.pinned (OpenSpec.upto fnExactFacesDownSpec)

/-- 'laws.FnExactLeafOf', WHERE WHAT IT READS IS OF BULK AT MOST 1048576: true; the input reads as it did. -/
def fnExactLeafOfUptoRow : OpenClaim := { program := "ytijbccmcfagnfaadoor", sum := "14b74a9e5c45bd343a45ac6489a909cdd82a50ca304205c7863316056c6d87da", func := "loop.example/g00944/laws.FnExactLeafOf", spec := "fnExactLeafOf", inPlace := ["internal/bytealg.IndexByteString", "internal/bytealg.IndexString", "internal/bytealg.CountString"], unfollowed := true, recurses := true, named := ["unicode/utf8.first", "unicode/utf8.acceptRanges", "internal/bytealg.MaxLen"], apart := false, laid := [("unicode/utf8.acceptRanges", laid_unicode_utf8_acceptRanges), ("unicode/utf8.first", laid_unicode_utf8_first)], narrowed := true }
def FnExactLeafOfUptoSaid : Prop := fnExactLeafOfUptoRow.holds Tryd.pinned (OpenSpec.upto fnExactLeafOfSpec)

/-- 'laws.FnExactFoldSheet', WHERE WHAT IT READS IS OF BULK AT MOST 1048576: true; the input reads as it did. -/
def fnExactFoldSheetUptoRow : OpenClaim := { program := "ytijbccmcfagnfaadoor", sum := "14b74a9e5c45bd343a45ac6489a909cdd82a50ca304205c7863316056c6d87da", func := "loop.example/g00944/laws.FnExactFoldSheet", spec := "fnExactFoldSheet", inPlace := ["internal/bytealg.IndexByteString", "internal/bytealg.IndexString", "internal/bytealg.CountString"], unfollowed := true, recurses := true, named := ["unicode/utf8.first", "unicode/utf8.acceptRanges", "internal/bytealg.MaxLen"], apart := false, laid := [("unicode/utf8.acceptRanges", laid_unicode_utf8_acceptRanges), ("unicode/utf8.first", laid_unicode_utf8_first)], narrowed := true }
def FnExactFoldSheetUptoSaid : Prop := fnExactFoldSheetUptoRow.holds Tryd.pinned (OpenSpec.upto fnExactFoldSheetSpec)

/-- 'laws.FnFolded', WHERE WHAT IT READS IS OF BULK AT MOST 1048576: true; the input reads as it did. -/
def fnFoldedUptoRow : OpenClaim := { program := "ytijbccmcfagnfaadoor", sum := "14b74a9e5c45bd343a45ac6489a909cdd82a50ca304205c7863316056c6d87da", func := "loop.example/g00944/laws.FnFolded", spec := "fnFolded", inPlace := ["internal/bytealg.IndexByteString", "internal/bytealg.IndexString", "internal/bytealg.CountString"], unfollowed := true, recurses := true, named := ["unicode/utf8.first", "unicode/utf8.acceptRanges", "internal/bytealg.MaxLen"], apart := false, laid := [("unicode/utf8.acceptRanges", laid_unicode_utf8_acceptRanges), ("unicode/utf8.first", laid_unicode_utf8_first)], narrowed := true }
def FnFoldedUptoSaid : Prop := fnFoldedUptoRow.holds Tryd.pinned (OpenSpec.upto fnFoldedSpec)

/-- 'laws.FnSchemes', WHERE WHAT IT READS IS OF BULK AT MOST 1048576: true; the input reads as it did. -/
def fnSchemesUptoRow : OpenClaim := { program := "ytijbccmcfagnfaadoor", sum := "14b74a9e5c45bd343a45ac6489a909cdd82a50ca304205c7863316056c6d87da", func := "loop.example/g00944/laws.FnSchemes", spec := "fnSchemes", inPlace := ["internal/bytealg.IndexByteString", "internal/bytealg.IndexString", "internal/bytealg.CountString"], unfollowed := true, recurses := true, named := ["unicode/utf8.first", "unicode/utf8.acceptRanges", "internal/bytealg.MaxLen"], apart := false, laid := [("unicode/utf8.acceptRanges", laid_unicode_utf8_acceptRanges), ("unicode/utf8.first", laid_unicode_utf8_first)], narrowed := true }
def FnSchemesUptoSaid : Prop := fnSchemesUptoRow.holds Tryd.pinned (OpenSpec.upto fnSchemesSpec)

/-- 'laws.FnExactImposeSheet', WHERE WHAT IT READS IS OF BULK AT MOST 1048576: true; the input reads as it did. -/
def fnExactImposeSheetUptoRow : OpenClaim := { program := "ytijbccmcfagnfaadoor", sum := "14b74a9e5c45bd343a45ac6489a909cdd82a50ca304205c7863316056c6d87da", func := "loop.example/g00944/laws.FnExactImposeSheet", spec := "fnExactImposeSheet", inPlace := ["internal/bytealg.IndexByteString", "internal/bytealg.IndexString", "internal/bytealg.CountString"], unfollowed := true, recurses := true, named := ["unicode/utf8.first", "unicode/utf8.acceptRanges", "internal/bytealg.MaxLen"], apart := false, laid := [("unicode/utf8.acceptRanges", laid_unicode_utf8_acceptRanges), ("unicode/utf8.first", laid_unicode_utf8_first)], narrowed := true }
def FnExactImposeSheetUptoSaid : Prop := fnExactImposeSheetUptoRow.holds Tryd.pinned (OpenSpec.upto fnExactImposeSheetSpec)

end Rows
end Go.Proofs.YtijbccmcfagnfaaDoor

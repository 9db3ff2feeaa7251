/-
  NARROWER THAN 'FOR EVERY INPUT', by the rows' own cells (each row's printed sentence says how): FnExactIsRightForm: laid · FnImposed: laid · FnReadForms: laid · FnExactReadForm: laid.
  DERIVED. THE GIVEN ROWS OF THIS SEAT. 4 by the template 'for every input the law returns true; each argument reads behind the call as it read before'; 0 by the template 'total and deterministic' (their statements: YtkpidjmhdagkfaaGreatDoorTotals.lean).
  GIVEN WITH THE SEED: the statements are not yours to turn. If you find one false, say at which input.
  Laid BY PROGRAM, IN A SANDBOX (cutbox-rows.mjs): the forced cells as the released guide's own fill.sh prints them over the translation 495f9f7c0fe70373… (all of the seat's roots in one cut). By AI agents, Wed Nov 11 2026. No macro, syntax, notation, axiom, sorry.
-/
import Derived.Test.YtkpidjmhdagkfaaGreatDoorChecked
import GoSem.PinnedTables
import GoSem.Claim
import GoSem.ClaimJoined
import GoSem.ClaimMapViews
import Derived.JoinedTies
import Derived.KernelRfl
namespace Go.Proofs.YtkpidjmhdagkfaaGreatDoor
/- THE CELL 'sum', in the pinned program and in every row, IS THE sha256 OF THE DUMP (.gsa) THAT YtkpidjmhdagkfaaGreatDoorProg.lean LOADS. Nothing in Lean hashes anything: it is a label: what it is worth is what the hold of that sum in a sandbox is worth. -/
noncomputable def Tryz.pinned : Pinned := { name := "ytkpidjmhdagkfaagreatdoor", sum := "495f9f7c0fe703734b9d63bb8bcb5a56b3a3d18eb7683e08186647ad92185173", checked := Tryz.checked }
namespace Rows
def none {H : Type} : Left H := { results := [], args := [] }

/- WHAT THE LISTED PACKAGE-LEVEL VARIABLES READ AS WHEN THE CALL BEGINS. Each datum BY PROGRAM (the guide's laid-datum.mjs) off the statement by which the dump's own 'gosem.cut.vars' lays the variable. In a bare row this is a premise. The card (YtkpidjmhdagkfaaGreatDoorCards.lean) ties it to the program's text. -/
def laid_unicode_utf8_acceptRanges {H : Type} : DataW H := .agg [.agg [.lit (.int .u8 128), .lit (.int .u8 191)], .agg [.lit (.int .u8 160), .lit (.int .u8 191)], .agg [.lit (.int .u8 128), .lit (.int .u8 159)], .agg [.lit (.int .u8 144), .lit (.int .u8 191)], .agg [.lit (.int .u8 128), .lit (.int .u8 143)], .agg [.lit (.int .u8 0), .lit (.int .u8 0)], .agg [.lit (.int .u8 0), .lit (.int .u8 0)], .agg [.lit (.int .u8 0), .lit (.int .u8 0)], .agg [.lit (.int .u8 0), .lit (.int .u8 0)], .agg [.lit (.int .u8 0), .lit (.int .u8 0)], .agg [.lit (.int .u8 0), .lit (.int .u8 0)], .agg [.lit (.int .u8 0), .lit (.int .u8 0)], .agg [.lit (.int .u8 0), .lit (.int .u8 0)], .agg [.lit (.int .u8 0), .lit (.int .u8 0)], .agg [.lit (.int .u8 0), .lit (.int .u8 0)], .agg [.lit (.int .u8 0), .lit (.int .u8 0)]]
/-- One of Go's own tables, pinned by name: the form's constant. -/
def laid_unicode_utf8_first : DataW Unit := Go.Pinned.utf8First

/-- 'laws.FnExactIsRightForm': WHATEVER THE INPUT: true; the input reads as it did. -/
def fnExactIsRightFormSpec : ChangeSpec := { name := "fnExactIsRightForm", fn := fun _ => fun
  | [d1, d2] => { results := [.lit (.bool true)], args := [d1, d2] }
  | _ => none }
def fnExactIsRightFormRow : OpenClaim := { program := "ytkpidjmhdagkfaagreatdoor", sum := "495f9f7c0fe703734b9d63bb8bcb5a56b3a3d18eb7683e08186647ad92185173", func := "loop.example/g00944/laws.FnExactIsRightForm", spec := "fnExactIsRightForm", inPlace := ["internal/bytealg.IndexByteString", "internal/bytealg.IndexString", "internal/bytealg.CountString"], unfollowed := true, recurses := true, named := ["unicode/utf8.first", "unicode/utf8.acceptRanges", "internal/bytealg.MaxLen"], apart := false, laid := [("unicode/utf8.acceptRanges", laid_unicode_utf8_acceptRanges), ("unicode/utf8.first", laid_unicode_utf8_first)] }
def FnExactIsRightFormSaid : Prop := fnExactIsRightFormRow.holds Tryz.pinned (OpenSpec.ofChange fnExactIsRightFormSpec)

/-- ITS FALSE NEIGHBOUR: 'it returns false'. Refute it at one input. -/
def fnExactIsRightFormWrong : ChangeSpec := { name := "fnExactIsRightForm", fn := fun _ => fun
  | [d1, d2] => { results := [.lit (.bool false)], args := [d1, d2] }
  | _ => none }
def FnExactIsRightFormWrongFalsely : Prop := fnExactIsRightFormRow.holds Tryz.pinned (OpenSpec.ofChange fnExactIsRightFormWrong)

/-- 'laws.FnImposed': WHATEVER THE INPUT: true; the input reads as it did. -/
def fnImposedSpec : ChangeSpec := { name := "fnImposed", fn := fun _ => fun
  | [d] => { results := [.lit (.bool true)], args := [d] }
  | _ => none }
def fnImposedRow : OpenClaim := { program := "ytkpidjmhdagkfaagreatdoor", sum := "495f9f7c0fe703734b9d63bb8bcb5a56b3a3d18eb7683e08186647ad92185173", func := "loop.example/g00944/laws.FnImposed", spec := "fnImposed", inPlace := ["internal/bytealg.IndexByteString", "internal/bytealg.IndexString", "internal/bytealg.CountString"], unfollowed := true, recurses := true, named := ["unicode/utf8.first", "unicode/utf8.acceptRanges", "internal/bytealg.MaxLen"], apart := false, laid := [("unicode/utf8.acceptRanges", laid_unicode_utf8_acceptRanges), ("unicode/utf8.first", laid_unicode_utf8_first)] }
def FnImposedSaid : Prop := fnImposedRow.holds Tryz.pinned (OpenSpec.ofChange fnImposedSpec)

/-- ITS FALSE NEIGHBOUR: 'it returns false'. Refute it at one input. -/
def fnImposedWrong : ChangeSpec := { name := "fnImposed", fn := fun _ => fun
  | [d] => { results := [.lit (.bool false)], args := [d] }
  | _ => none }
def FnImposedWrongFalsely : Prop := fnImposedRow.holds Tryz.pinned (OpenSpec.ofChange fnImposedWrong)

/-- 'laws.FnReadForms': WHATEVER THE INPUT: true; the input reads as it did. -/
def fnReadFormsSpec : ChangeSpec := { name := "fnReadForms", fn := fun _ => fun
  | [d] => { results := [.lit (.bool true)], args := [d] }
  | _ => none }
def fnReadFormsRow : OpenClaim := { program := "ytkpidjmhdagkfaagreatdoor", sum := "495f9f7c0fe703734b9d63bb8bcb5a56b3a3d18eb7683e08186647ad92185173", func := "loop.example/g00944/laws.FnReadForms", spec := "fnReadForms", inPlace := ["internal/bytealg.IndexByteString", "internal/bytealg.IndexString", "internal/bytealg.CountString"], unfollowed := true, recurses := true, named := ["unicode/utf8.first", "unicode/utf8.acceptRanges", "internal/bytealg.MaxLen"], apart := false, laid := [("unicode/utf8.acceptRanges", laid_unicode_utf8_acceptRanges), ("unicode/utf8.first", laid_unicode_utf8_first)] }
def FnReadFormsSaid : Prop := fnReadFormsRow.holds Tryz.pinned (OpenSpec.ofChange fnReadFormsSpec)

/-- ITS FALSE NEIGHBOUR: 'it returns false'. Refute it at one input. -/
def fnReadFormsWrong : ChangeSpec := { name := "fnReadForms", fn := fun _ => fun
  | [d] => { results := [.lit (.bool false)], args := [d] }
  | _ => none }
def FnReadFormsWrongFalsely : Prop := fnReadFormsRow.holds Tryz.pinned (OpenSpec.ofChange fnReadFormsWrong)

/-- 'laws.FnExactReadForm': WHATEVER THE INPUT: true; the input reads as it did. -/
def fnExactReadFormSpec : ChangeSpec := { name := "fnExactReadForm", fn := fun _ => fun
  | [d1, d2] => { results := [.lit (.bool true)], args := [d1, d2] }
  | _ => none }
def fnExactReadFormRow : OpenClaim := { program := "ytkpidjmhdagkfaagreatdoor", sum := "495f9f7c0fe703734b9d63bb8bcb5a56b3a3d18eb7683e08186647ad92185173", func := "loop.example/g00944/laws.FnExactReadForm", spec := "fnExactReadForm", inPlace := ["internal/bytealg.IndexByteString", "internal/bytealg.IndexString", "internal/bytealg.CountString"], unfollowed := true, recurses := true, named := ["unicode/utf8.first", "unicode/utf8.acceptRanges", "internal/bytealg.MaxLen"], apart := false, laid := [("unicode/utf8.acceptRanges", laid_unicode_utf8_acceptRanges), ("unicode/utf8.first", laid_unicode_utf8_first)] }
def FnExactReadFormSaid : Prop := fnExactReadFormRow.holds Tryz.pinned (OpenSpec.ofChange fnExactReadFormSpec)

/-- ITS FALSE NEIGHBOUR: 'it returns false'. Refute it at one input. -/
def fnExactReadFormWrong : ChangeSpec := { name := "fnExactReadForm", fn := fun _ => fun
  | [d1, d2] => { results := [.lit (.bool false)], args := [d1, d2] }
  | _ => none }
def FnExactReadFormWrongFalsely : Prop := fnExactReadFormRow.holds Tryz.pinned (OpenSpec.ofChange fnExactReadFormWrong)

/- THE SECOND FORM. 'bulk': how many values and letters a reading holds, each counted each time it is reached (what is shared counts as often as it is met; a slice's spare places count too). A statement '..UptoSaid' is the law's where the arguments, and the package variables that the reading takes, are together of bulk at most 1048576: NARROWER than '..Said'. Prove '..Said' where nothing that the law and all that it calls make is longer than what came in: it says more and counts as full. Else prove '..UptoSaid'. A law counts once. -/
mutual
def uptoBulk {H : Type} : DataW H → Nat
  | .lit (.string bytes) => bytes.length + 1
  | .lit _ => 1
  | .nil => 1
  | .ptr d => uptoBulk d + 1
  | .slice elems spare => uptoBulkAll elems + uptoBulkAll spare + 1
  | .agg parts => uptoBulkAll parts + 1
  | .iface _ d => uptoBulk d + 1
  | .map entries => uptoBulkEntries entries + 1
  | .held _ => 1
def uptoBulkAll {H : Type} : List (DataW H) → Nat
  | [] => 0
  | d :: r => uptoBulk d + uptoBulkAll r
def uptoBulkEntries {H : Type} : List (Lit × DataW H) → Nat
  | [] => 0
  | x :: r => uptoBulkEntry x + uptoBulkEntries r
def uptoBulkEntry {H : Type} : Lit × DataW H → Nat
  | (.string bytes, d) => bytes.length + uptoBulk d + 1
  | (_, d) => uptoBulk d + 1
 end
def uptoSmall : (H : Type) → List (DataW H) → Bool := fun _ ds => decide (uptoBulkAll ds ≤ 1048576)
def OpenSpec.upto (s : _root_.Go.ChangeSpec) : _root_.Go.OpenSpec := { _root_.Go.OpenSpec.ofChange s with cond := some uptoSmall }

/-- 'laws.FnExactIsRightForm', WHERE WHAT IT READS IS OF BULK AT MOST 1048576: true; the input reads as it did. -/
def fnExactIsRightFormUptoRow : OpenClaim := { program := "ytkpidjmhdagkfaagreatdoor", sum := "495f9f7c0fe703734b9d63bb8bcb5a56b3a3d18eb7683e08186647ad92185173", func := "loop.example/g00944/laws.FnExactIsRightForm", spec := "fnExactIsRightForm", inPlace := ["internal/bytealg.IndexByteString", "internal/bytealg.IndexString", "internal/bytealg.CountString"], unfollowed := true, recurses := true, named := ["unicode/utf8.first", "unicode/utf8.acceptRanges", "internal/bytealg.MaxLen"], apart := false, laid := [("unicode/utf8.acceptRanges", laid_unicode_utf8_acceptRanges), ("unicode/utf8.first", laid_unicode_utf8_first)], narrowed := true }
def FnExactIsRightFormUptoSaid : Prop := fnExactIsRightFormUptoRow.holds Tryz.pinned (OpenSpec.upto fnExactIsRightFormSpec)

/-- 'laws.FnImposed', WHERE WHAT IT READS IS OF BULK AT MOST 1048576: true; the input reads as it did. -/
def fnImposedUptoRow : OpenClaim := { program := "ytkpidjmhdagkfaagreatdoor", sum := "495f9f7c0fe703734b9d63bb8bcb5a56b3a3d18eb7683e08186647ad92185173", func := "loop.example/g00944/laws.FnImposed", spec := "fnImposed", inPlace := ["internal/bytealg.IndexByteString", "internal/bytealg.IndexString", "internal/bytealg.CountString"], unfollowed := true, recurses := true, named := ["unicode/utf8.first", "unicode/utf8.acceptRanges", "internal/bytealg.MaxLen"], apart := false, laid := [("unicode/utf8.acceptRanges", laid_unicode_utf8_acceptRanges), ("unicode/utf8.first", laid_unicode_utf8_first)], narrowed := true }
def FnImposedUptoSaid : Prop := fnImposedUptoRow.holds Tryz.pinned (OpenSpec.upto fnImposedSpec)

/-- 'laws.FnReadForms', WHERE WHAT IT READS IS OF BULK AT MOST 1048576: true; the input reads as it did. -/
def fnReadFormsUptoRow : OpenClaim := { program := "ytkpidjmhdagkfaagreatdoor", sum := "495f9f7c0fe703734b9d63bb8bcb5a56b3a3d18eb7683e08186647ad92185173", func := "loop.example/g00944/laws.FnReadForms", spec := "fnReadForms", inPlace := ["internal/bytealg.IndexByteString", "internal/bytealg.IndexString", "internal/bytealg.CountString"], unfollowed := true, recurses := true, named := ["unicode/utf8.first", "unicode/utf8.acceptRanges", "internal/bytealg.MaxLen"], apart := false, laid := [("unicode/utf8.acceptRanges", laid_unicode_utf8_acceptRanges), ("unicode/utf8.first", laid_unicode_utf8_first)], narrowed := true }
def FnReadFormsUptoSaid : Prop := fnReadFormsUptoRow.holds Tryz.pinned (OpenSpec.upto fnReadFormsSpec)

/-- 'laws.FnExactReadForm', WHERE WHAT IT READS IS OF BULK AT MOST 1048576: true; the input reads as it did. -/
def fnExactReadFormUptoRow : OpenClaim := { program := "ytkpidjmhdagkfaagreatdoor", sum := "495f9f7c0fe703734b9d63bb8bcb5a56b3a3d18eb7683e08186647ad92185173", func := "loop.example/g00944/laws.FnExactReadForm", spec := "fnExactReadForm", inPlace := ["internal/bytealg.IndexByteString", "internal/bytealg.IndexString", "internal/bytealg.CountString"], unfollowed := true, recurses := true, named := ["unicode/utf8.first", "unicode/utf8.acceptRanges", "internal/bytealg.MaxLen"], apart := false, laid := [("unicode/utf8.acceptRanges", laid_unicode_utf8_acceptRanges), ("unicode/utf8.first", laid_unicode_utf8_first)], narrowed := true }
def FnExactReadFormUptoSaid : Prop := fnExactReadFormUptoRow.holds Tryz.pinned (OpenSpec.upto fnExactReadFormSpec)

end Rows
end Go.Proofs.YtkpidjmhdagkfaaGreatDoor

/-
  No cell of these rows narrows 'for every input' (looked for: loops, veiled, ifaces, maps, wideKeys, modest, calm, conditions, laid).
  DERIVED. THE GIVEN ROWS OF THIS SEAT. 6 by the template 'for every input the law returns true; each argument reads behind the call as it read before'; 0 by the template 'total and deterministic' (their statements: YtkpidjmhdagkfaaTotals.lean).
  GIVEN WITH THE SEED: the statements are not yours to turn. If you find one false, say at which input.
  Laid BY PROGRAM, IN A SANDBOX (cutbox-rows.mjs): the forced cells as the released guide's own fill.sh prints them over the translation 8340388cebf00eae… (all of the seat's roots in one cut). By AI agents, Wed Nov 11 2026. No macro, syntax, notation, axiom, sorry.
-/
import Derived.Test.YtkpidjmhdagkfaaChecked
import GoSem.Claim
import GoSem.ClaimJoined
import GoSem.ClaimMapViews
import Derived.JoinedTies
import Derived.KernelRfl
namespace Go.Proofs.Ytkpidjmhdagkfaa
/- THE CELL 'sum', in the pinned program and in every row, IS THE sha256 OF THE DUMP (.gsa) THAT YtkpidjmhdagkfaaProg.lean LOADS. Nothing in Lean hashes anything: it is a label: what it is worth is what the hold of that sum in a sandbox is worth. -/
noncomputable def Try.pinned : Pinned := { name := "ytkpidjmhdagkfaa", sum := "8340388cebf00eaea0f786fb513e26e337dae75b251570646a5c20834d254e4b", checked := Try.checked }
namespace Rows
def none {H : Type} : Left H := { results := [], args := [] }

/-- 'laws.FnExactIsForm': WHATEVER THE INPUT: true; the input reads as it did. -/
def fnExactIsFormSpec : ChangeSpec := { name := "fnExactIsForm", fn := fun _ => fun
  | [d] => { results := [.lit (.bool true)], args := [d] }
  | _ => none }
def fnExactIsFormRow : OpenClaim := { program := "ytkpidjmhdagkfaa", sum := "8340388cebf00eaea0f786fb513e26e337dae75b251570646a5c20834d254e4b", func := "loop.example/g00944/laws.FnExactIsForm", spec := "fnExactIsForm", unfollowed := true, recurses := true, apart := false }
def FnExactIsFormSaid : Prop := fnExactIsFormRow.holds Try.pinned (OpenSpec.ofChange fnExactIsFormSpec)

/-- ITS FALSE NEIGHBOUR: 'it returns false'. Refute it at one input. -/
def fnExactIsFormWrong : ChangeSpec := { name := "fnExactIsForm", fn := fun _ => fun
  | [d] => { results := [.lit (.bool false)], args := [d] }
  | _ => none }
def FnExactIsFormWrongFalsely : Prop := fnExactIsFormRow.holds Try.pinned (OpenSpec.ofChange fnExactIsFormWrong)

/-- 'laws.FnExactPlaceOfPage': WHATEVER THE INPUT: true; the input reads as it did. -/
def fnExactPlaceOfPageSpec : ChangeSpec := { name := "fnExactPlaceOfPage", fn := fun _ => fun
  | [d1, d2] => { results := [.lit (.bool true)], args := [d1, d2] }
  | _ => none }
def fnExactPlaceOfPageRow : OpenClaim := { program := "ytkpidjmhdagkfaa", sum := "8340388cebf00eaea0f786fb513e26e337dae75b251570646a5c20834d254e4b", func := "loop.example/g00944/laws.FnExactPlaceOfPage", spec := "fnExactPlaceOfPage", unfollowed := true, recurses := true, apart := false }
def FnExactPlaceOfPageSaid : Prop := fnExactPlaceOfPageRow.holds Try.pinned (OpenSpec.ofChange fnExactPlaceOfPageSpec)

/-- ITS FALSE NEIGHBOUR: 'it returns false'. Refute it at one input. -/
def fnExactPlaceOfPageWrong : ChangeSpec := { name := "fnExactPlaceOfPage", fn := fun _ => fun
  | [d1, d2] => { results := [.lit (.bool false)], args := [d1, d2] }
  | _ => none }
def FnExactPlaceOfPageWrongFalsely : Prop := fnExactPlaceOfPageRow.holds Try.pinned (OpenSpec.ofChange fnExactPlaceOfPageWrong)

/-- 'laws.FnExactTurnForm': WHATEVER THE INPUT: true; the input reads as it did. -/
def fnExactTurnFormSpec : ChangeSpec := { name := "fnExactTurnForm", fn := fun _ => fun
  | [d] => { results := [.lit (.bool true)], args := [d] }
  | _ => none }
def fnExactTurnFormRow : OpenClaim := { program := "ytkpidjmhdagkfaa", sum := "8340388cebf00eaea0f786fb513e26e337dae75b251570646a5c20834d254e4b", func := "loop.example/g00944/laws.FnExactTurnForm", spec := "fnExactTurnForm", unfollowed := true, recurses := true, apart := false }
def FnExactTurnFormSaid : Prop := fnExactTurnFormRow.holds Try.pinned (OpenSpec.ofChange fnExactTurnFormSpec)

/-- ITS FALSE NEIGHBOUR: 'it returns false'. Refute it at one input. -/
def fnExactTurnFormWrong : ChangeSpec := { name := "fnExactTurnForm", fn := fun _ => fun
  | [d] => { results := [.lit (.bool false)], args := [d] }
  | _ => none }
def FnExactTurnFormWrongFalsely : Prop := fnExactTurnFormRow.holds Try.pinned (OpenSpec.ofChange fnExactTurnFormWrong)

/-- 'laws.FnExactShiftForm': WHATEVER THE INPUT: true; the input reads as it did. -/
def fnExactShiftFormSpec : ChangeSpec := { name := "fnExactShiftForm", fn := fun _ => fun
  | [d1, d2] => { results := [.lit (.bool true)], args := [d1, d2] }
  | _ => none }
def fnExactShiftFormRow : OpenClaim := { program := "ytkpidjmhdagkfaa", sum := "8340388cebf00eaea0f786fb513e26e337dae75b251570646a5c20834d254e4b", func := "loop.example/g00944/laws.FnExactShiftForm", spec := "fnExactShiftForm", unfollowed := true, recurses := true, apart := false }
def FnExactShiftFormSaid : Prop := fnExactShiftFormRow.holds Try.pinned (OpenSpec.ofChange fnExactShiftFormSpec)

/-- ITS FALSE NEIGHBOUR: 'it returns false'. Refute it at one input. -/
def fnExactShiftFormWrong : ChangeSpec := { name := "fnExactShiftForm", fn := fun _ => fun
  | [d1, d2] => { results := [.lit (.bool false)], args := [d1, d2] }
  | _ => none }
def FnExactShiftFormWrongFalsely : Prop := fnExactShiftFormRow.holds Try.pinned (OpenSpec.ofChange fnExactShiftFormWrong)

/-- 'laws.FnPagePlaces': WHATEVER THE INPUT: true; the input reads as it did. -/
def fnPagePlacesSpec : ChangeSpec := { name := "fnPagePlaces", fn := fun _ => fun
  | [d] => { results := [.lit (.bool true)], args := [d] }
  | _ => none }
def fnPagePlacesRow : OpenClaim := { program := "ytkpidjmhdagkfaa", sum := "8340388cebf00eaea0f786fb513e26e337dae75b251570646a5c20834d254e4b", func := "loop.example/g00944/laws.FnPagePlaces", spec := "fnPagePlaces", unfollowed := true, recurses := true, apart := false }
def FnPagePlacesSaid : Prop := fnPagePlacesRow.holds Try.pinned (OpenSpec.ofChange fnPagePlacesSpec)

/-- ITS FALSE NEIGHBOUR: 'it returns false'. Refute it at one input. -/
def fnPagePlacesWrong : ChangeSpec := { name := "fnPagePlaces", fn := fun _ => fun
  | [d] => { results := [.lit (.bool false)], args := [d] }
  | _ => none }
def FnPagePlacesWrongFalsely : Prop := fnPagePlacesRow.holds Try.pinned (OpenSpec.ofChange fnPagePlacesWrong)

/-- 'laws.FnExactSchemesFor': WHATEVER THE INPUT: true; the input reads as it did. -/
def fnExactSchemesForSpec : ChangeSpec := { name := "fnExactSchemesFor", fn := fun _ => fun
  | [d] => { results := [.lit (.bool true)], args := [d] }
  | _ => none }
def fnExactSchemesForRow : OpenClaim := { program := "ytkpidjmhdagkfaa", sum := "8340388cebf00eaea0f786fb513e26e337dae75b251570646a5c20834d254e4b", func := "loop.example/g00944/laws.FnExactSchemesFor", spec := "fnExactSchemesFor", unfollowed := true, recurses := true, apart := false }
def FnExactSchemesForSaid : Prop := fnExactSchemesForRow.holds Try.pinned (OpenSpec.ofChange fnExactSchemesForSpec)

/-- ITS FALSE NEIGHBOUR: 'it returns false'. Refute it at one input. -/
def fnExactSchemesForWrong : ChangeSpec := { name := "fnExactSchemesFor", fn := fun _ => fun
  | [d] => { results := [.lit (.bool false)], args := [d] }
  | _ => none }
def FnExactSchemesForWrongFalsely : Prop := fnExactSchemesForRow.holds Try.pinned (OpenSpec.ofChange fnExactSchemesForWrong)

/- THE SECOND FORM. 'bulk': how many values and letters a reading holds, each counted each time it is reached (what is shared counts as often as it is met; a slice's spare places count too). A statement '..UptoSaid' is the law's where the arguments, and the package variables that the reading takes, are together of bulk at most 1048576: NARROWER than '..Said'. Prove '..Said' where nothing that the law and all that it calls make is longer than what came in: it says more and counts as full. Else prove '..UptoSaid'. A law counts once. -/
mutual
def uptoBulk {H : Type} : DataW H → Nat
  | .lit (.string bytes) => bytes.length + 1
  | .lit _ => 1
  | .nil => 1
  | .ptr d => uptoBulk d + 1
  | .slice elems spare => uptoBulkAll elems + uptoBulkAll spare + 1
  | .agg parts => uptoBulkAll parts + 1
  | .iface _ d => uptoBulk d + 1
  | .map entries => uptoBulkEntries entries + 1
  | .held _ => 1
def uptoBulkAll {H : Type} : List (DataW H) → Nat
  | [] => 0
  | d :: r => uptoBulk d + uptoBulkAll r
def uptoBulkEntries {H : Type} : List (Lit × DataW H) → Nat
  | [] => 0
  | x :: r => uptoBulkEntry x + uptoBulkEntries r
def uptoBulkEntry {H : Type} : Lit × DataW H → Nat
  | (.string bytes, d) => bytes.length + uptoBulk d + 1
  | (_, d) => uptoBulk d + 1
 end
def uptoSmall : (H : Type) → List (DataW H) → Bool := fun _ ds => decide (uptoBulkAll ds ≤ 1048576)
def OpenSpec.upto (s : _root_.Go.ChangeSpec) : _root_.Go.OpenSpec := { _root_.Go.OpenSpec.ofChange s with cond := some uptoSmall }

/-- 'laws.FnExactIsForm', WHERE WHAT IT READS IS OF BULK AT MOST 1048576: true; the input reads as it did. -/
def fnExactIsFormUptoRow : OpenClaim := { program := "ytkpidjmhdagkfaa", sum := "8340388cebf00eaea0f786fb513e26e337dae75b251570646a5c20834d254e4b", func := "loop.example/g00944/laws.FnExactIsForm", spec := "fnExactIsForm", unfollowed := true, recurses := true, apart := false, narrowed := true }
def FnExactIsFormUptoSaid : Prop := fnExactIsFormUptoRow.holds Try.pinned (OpenSpec.upto fnExactIsFormSpec)

/-- 'laws.FnExactPlaceOfPage', WHERE WHAT IT READS IS OF BULK AT MOST 1048576: true; the input reads as it did. -/
def fnExactPlaceOfPageUptoRow : OpenClaim := { program := "ytkpidjmhdagkfaa", sum := "8340388cebf00eaea0f786fb513e26e337dae75b251570646a5c20834d254e4b", func := "loop.example/g00944/laws.FnExactPlaceOfPage", spec := "fnExactPlaceOfPage", unfollowed := true, recurses := true, apart := false, narrowed := true }
def FnExactPlaceOfPageUptoSaid : Prop := fnExactPlaceOfPageUptoRow.holds Try.pinned (OpenSpec.upto fnExactPlaceOfPageSpec)

/-- 'laws.FnExactTurnForm', WHERE WHAT IT READS IS OF BULK AT MOST 1048576: true; the input reads as it did. -/
def fnExactTurnFormUptoRow : OpenClaim := { program := "ytkpidjmhdagkfaa", sum := "8340388cebf00eaea0f786fb513e26e337dae75b251570646a5c20834d254e4b", func := "loop.example/g00944/laws.FnExactTurnForm", spec := "fnExactTurnForm", unfollowed := true, recurses := true, apart := false, narrowed := true }
def FnExactTurnFormUptoSaid : Prop := fnExactTurnFormUptoRow.holds Try.pinned (OpenSpec.upto fnExactTurnFormSpec)

/-- 'laws.FnExactShiftForm', WHERE WHAT IT READS IS OF BULK AT MOST 1048576: true; the input reads as it did. -/
def fnExactShiftFormUptoRow : OpenClaim := { program := "ytkpidjmhdagkfaa", sum := "8340388cebf00eaea0f786fb513e26e337dae75b251570646a5c20834d254e4b", func := "loop.example/g00944/laws.FnExactShiftForm", spec := "fnExactShiftForm", unfollowed := true, recurses := true, apart := false, narrowed := true }
def FnExactShiftFormUptoSaid : Prop := fnExactShiftFormUptoRow.holds Try.pinned (OpenSpec.upto fnExactShiftFormSpec)

/-- 'laws.FnPagePlaces', WHERE WHAT IT READS IS OF BULK AT MOST 1048576: true; the input reads as it did. -/
def fnPagePlacesUptoRow : OpenClaim := { program := "ytkpidjmhdagkfaa", sum := "8340388cebf00eaea0f786fb513e26e337dae75b251570646a5c20834d254e4b", func := "loop.example/g00944/laws.FnPagePlaces", spec := "fnPagePlaces", unfollowed := true, recurses := true, apart := false, narrowed := true }
def FnPagePlacesUptoSaid : Prop := fnPagePlacesUptoRow.holds Try.pinned (OpenSpec.upto fnPagePlacesSpec)

/-- 'laws.FnExactSchemesFor', WHERE WHAT IT READS IS OF BULK AT MOST 1048576: true; the input reads as it did. -/
def fnExactSchemesForUptoRow : OpenClaim := { program := "ytkpidjmhdagkfaa", sum := "8340388cebf00eaea0f786fb513e26e337dae75b251570646a5c20834d254e4b", func := "loop.example/g00944/laws.FnExactSchemesFor", spec := "fnExactSchemesFor", unfollowed := true, recurses := true, apart := false, narrowed := true }
def FnExactSchemesForUptoSaid : Prop := fnExactSchemesForUptoRow.holds Try.pinned (OpenSpec.upto fnExactSchemesForSpec)

end Rows
end Go.Proofs.Ytkpidjmhdagkfaa

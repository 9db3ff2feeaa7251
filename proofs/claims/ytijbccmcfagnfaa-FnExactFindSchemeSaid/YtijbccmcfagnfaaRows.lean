/-
  No cell of these rows narrows 'for every input' (looked for: loops, veiled, ifaces, maps, wideKeys, modest, calm, conditions, laid).
  DERIVED. THE GIVEN ROWS OF THIS SEAT. 3 by the template 'for every input the law returns true; each argument reads behind the call as it read before'; 0 by the template 'total and deterministic' (their statements: YtijbccmcfagnfaaTotals.lean).
  GIVEN WITH THE SEED: the statements are not yours to turn. If you find one false, say at which input.
  Laid BY PROGRAM, IN A SANDBOX (cutbox-rows.mjs): the forced cells as the released guide's own fill.sh prints them over the translation 38b8ec5496ed0d3e… (all of the seat's roots in one cut). By AI agents, Wed Nov 11 2026. No macro, syntax, notation, axiom, sorry.
-/
import Derived.Test.YtijbccmcfagnfaaChecked
import GoSem.Claim
import GoSem.ClaimJoined
import GoSem.ClaimMapViews
import Derived.JoinedTies
import Derived.KernelRfl
namespace Go.Proofs.Ytijbccmcfagnfaa
/- THE CELL 'sum', in the pinned program and in every row, IS THE sha256 OF THE DUMP (.gsa) THAT YtijbccmcfagnfaaProg.lean LOADS. Nothing in Lean hashes anything: it is a label: what it is worth is what the hold of that sum in a sandbox is worth. -/
noncomputable def Try.pinned : Pinned := { name := "ytijbccmcfagnfaa", sum := "38b8ec5496ed0d3ec05781364918cd18ba1a999f6f53b189064fecea880fcb9a", checked := Try.checked }
namespace Rows
def none {H : Type} : Left H := { results := [], args := [] }

/-- 'laws.FnExactCountSchemes': WHATEVER THE INPUT: true; the input reads as it did. -/
def fnExactCountSchemesSpec : ChangeSpec := { name := "fnExactCountSchemes", fn := fun _ => fun
  | [d1, d2] => { results := [.lit (.bool true)], args := [d1, d2] }
  | _ => none }
def fnExactCountSchemesRow : OpenClaim := { program := "ytijbccmcfagnfaa", sum := "38b8ec5496ed0d3ec05781364918cd18ba1a999f6f53b189064fecea880fcb9a", func := "loop.example/g00944/laws.FnExactCountSchemes", spec := "fnExactCountSchemes", unfollowed := true, recurses := true, apart := false }
def FnExactCountSchemesSaid : Prop := fnExactCountSchemesRow.holds Try.pinned (OpenSpec.ofChange fnExactCountSchemesSpec)

/-- ITS FALSE NEIGHBOUR: 'it returns false'. Refute it at one input. -/
def fnExactCountSchemesWrong : ChangeSpec := { name := "fnExactCountSchemes", fn := fun _ => fun
  | [d1, d2] => { results := [.lit (.bool false)], args := [d1, d2] }
  | _ => none }
def FnExactCountSchemesWrongFalsely : Prop := fnExactCountSchemesRow.holds Try.pinned (OpenSpec.ofChange fnExactCountSchemesWrong)

/-- 'laws.FnExactSchemesOf': WHATEVER THE INPUT: true; the input reads as it did. -/
def fnExactSchemesOfSpec : ChangeSpec := { name := "fnExactSchemesOf", fn := fun _ => fun
  | [d1, d2] => { results := [.lit (.bool true)], args := [d1, d2] }
  | _ => none }
def fnExactSchemesOfRow : OpenClaim := { program := "ytijbccmcfagnfaa", sum := "38b8ec5496ed0d3ec05781364918cd18ba1a999f6f53b189064fecea880fcb9a", func := "loop.example/g00944/laws.FnExactSchemesOf", spec := "fnExactSchemesOf", unfollowed := true, recurses := true, apart := false }
def FnExactSchemesOfSaid : Prop := fnExactSchemesOfRow.holds Try.pinned (OpenSpec.ofChange fnExactSchemesOfSpec)

/-- ITS FALSE NEIGHBOUR: 'it returns false'. Refute it at one input. -/
def fnExactSchemesOfWrong : ChangeSpec := { name := "fnExactSchemesOf", fn := fun _ => fun
  | [d1, d2] => { results := [.lit (.bool false)], args := [d1, d2] }
  | _ => none }
def FnExactSchemesOfWrongFalsely : Prop := fnExactSchemesOfRow.holds Try.pinned (OpenSpec.ofChange fnExactSchemesOfWrong)

/-- 'laws.FnExactFindScheme': WHATEVER THE INPUT: true; the input reads as it did. -/
def fnExactFindSchemeSpec : ChangeSpec := { name := "fnExactFindScheme", fn := fun _ => fun
  | [d1, d2, d3] => { results := [.lit (.bool true)], args := [d1, d2, d3] }
  | _ => none }
def fnExactFindSchemeRow : OpenClaim := { program := "ytijbccmcfagnfaa", sum := "38b8ec5496ed0d3ec05781364918cd18ba1a999f6f53b189064fecea880fcb9a", func := "loop.example/g00944/laws.FnExactFindScheme", spec := "fnExactFindScheme", unfollowed := true, recurses := true, apart := false }
def FnExactFindSchemeSaid : Prop := fnExactFindSchemeRow.holds Try.pinned (OpenSpec.ofChange fnExactFindSchemeSpec)

/-- ITS FALSE NEIGHBOUR: 'it returns false'. Refute it at one input. -/
def fnExactFindSchemeWrong : ChangeSpec := { name := "fnExactFindScheme", fn := fun _ => fun
  | [d1, d2, d3] => { results := [.lit (.bool false)], args := [d1, d2, d3] }
  | _ => none }
def FnExactFindSchemeWrongFalsely : Prop := fnExactFindSchemeRow.holds Try.pinned (OpenSpec.ofChange fnExactFindSchemeWrong)

/- THE SECOND FORM. 'bulk': how many values and letters a reading holds, each counted each time it is reached (what is shared counts as often as it is met; a slice's spare places count too). A statement '..UptoSaid' is the law's where the arguments, and the package variables that the reading takes, are together of bulk at most 1048576: NARROWER than '..Said'. Prove '..Said' where nothing that the law and all that it calls make is longer than what came in: it says more and counts as full. Else prove '..UptoSaid'. A law counts once. -/
mutual
def uptoBulk {H : Type} : DataW H → Nat
  | .lit (.string bytes) => bytes.length + 1
  | .lit _ => 1
  | .nil => 1
  | .ptr d => uptoBulk d + 1
  | .slice elems spare => uptoBulkAll elems + uptoBulkAll spare + 1
  | .agg parts => uptoBulkAll parts + 1
  | .iface _ d => uptoBulk d + 1
  | .map entries => uptoBulkEntries entries + 1
  | .held _ => 1
def uptoBulkAll {H : Type} : List (DataW H) → Nat
  | [] => 0
  | d :: r => uptoBulk d + uptoBulkAll r
def uptoBulkEntries {H : Type} : List (Lit × DataW H) → Nat
  | [] => 0
  | x :: r => uptoBulkEntry x + uptoBulkEntries r
def uptoBulkEntry {H : Type} : Lit × DataW H → Nat
  | (.string bytes, d) => bytes.length + uptoBulk d + 1
  | (_, d) => uptoBulk d + 1
 end
def uptoSmall : (H : Type) → List (DataW H) → Bool := fun _ ds => decide (uptoBulkAll ds ≤ 1048576)
def OpenSpec.upto (s : _root_.Go.ChangeSpec) : _root_.Go.OpenSpec := { _root_.Go.OpenSpec.ofChange s with cond := some uptoSmall }

/-- 'laws.FnExactCountSchemes', WHERE WHAT IT READS IS OF BULK AT MOST 1048576: true; the input reads as it did. -/
def fnExactCountSchemesUptoRow : OpenClaim := { program := "ytijbccmcfagnfaa", sum := "38b8ec5496ed0d3ec05781364918cd18ba1a999f6f53b189064fecea880fcb9a", func := "loop.example/g00944/laws.FnExactCountSchemes", spec := "fnExactCountSchemes", unfollowed := true, recurses := true, apart := false, narrowed := true }
def FnExactCountSchemesUptoSaid : Prop := fnExactCountSchemesUptoRow.holds Try.pinned (OpenSpec.upto fnExactCountSchemesSpec)

/-- 'laws.FnExactSchemesOf', WHERE WHAT IT READS IS OF BULK AT MOST 1048576: true; the input reads as it did. -/
def fnExactSchemesOfUptoRow : OpenClaim := { program := "ytijbccmcfagnfaa", sum := "38b8ec5496ed0d3ec05781364918cd18ba1a999f6f53b189064fecea880fcb9a", func := "loop.example/g00944/laws.FnExactSchemesOf", spec := "fnExactSchemesOf", unfollowed := true, recurses := true, apart := false, narrowed := true }
def FnExactSchemesOfUptoSaid : Prop := fnExactSchemesOfUptoRow.holds Try.pinned (OpenSpec.upto fnExactSchemesOfSpec)

/-- 'laws.FnExactFindScheme', WHERE WHAT IT READS IS OF BULK AT MOST 1048576: true; the input reads as it did. -/
def fnExactFindSchemeUptoRow : OpenClaim := { program := "ytijbccmcfagnfaa", sum := "38b8ec5496ed0d3ec05781364918cd18ba1a999f6f53b189064fecea880fcb9a", func := "loop.example/g00944/laws.FnExactFindScheme", spec := "fnExactFindScheme", unfollowed := true, recurses := true, apart := false, narrowed := true }
def FnExactFindSchemeUptoSaid : Prop := fnExactFindSchemeUptoRow.holds Try.pinned (OpenSpec.upto fnExactFindSchemeSpec)

end Rows
end Go.Proofs.Ytijbccmcfagnfaa

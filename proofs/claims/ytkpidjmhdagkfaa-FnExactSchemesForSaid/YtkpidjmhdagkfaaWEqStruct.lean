-- Out of the kit's printed words (Derived/Print), cut down by prune.py of this session's repo to what this claim names: no longer print.sh's own text.
import Derived.Test.YtkpidjmhdagkfaaWWords
import Derived.Laws.StructEq
/-! ### 53. '==' of structs as_ one Bool -/
namespace Go.Proofs.YtkpidjmhdagkfaaW.PrintWords
open Go.RowKit
section
variable {P : Program} {d : Nat} {xs ys : Array Value} {f : Field} {fs : List Field} {a b : Value} {r s : Bool} {w : World}
end
end Go.Proofs.YtkpidjmhdagkfaaW.PrintWords

-- Out of the kit's printed words (Derived/Print), cut down by prune.py of this session's repo to what this claim names: no longer print.sh's own text.
import Derived.Test.YtkpidjmhdagkfaaWTab
/-! ### 56. Four, five, six operations that may come up next, in any order -/
namespace Go.Proofs.YtkpidjmhdagkfaaW.PrintLast
section
variable {P : Program} {ops : Array Oper} {Q : Exit → Act → World → Prop} {md : Region.Mode} {S : World → Prop} {ds : List Nat} {T : Bool × List (List Nat × List Nat)}
end
end Go.Proofs.YtkpidjmhdagkfaaW.PrintLast

-- Out of the kit's printed words (Derived/Print), cut down by prune.py of this session's repo to what this claim names: no longer print.sh's own text.
import Derived.Test.YtkpidjmhdagkfaaWInv
import Derived.Test.YtkpidjmhdagkfaaWFootNe
namespace Go.Proofs.YtkpidjmhdagkfaaW.PrintWords
open Go.RowKit
end Go.Proofs.YtkpidjmhdagkfaaW.PrintWords
namespace Go.Proofs.YtkpidjmhdagkfaaW.PrintLast
section
variable {ops : Array Oper} {a : Act} {o og : Oper} {g : Nat} {t : Tmp} {u : Bool}
end
end Go.Proofs.YtkpidjmhdagkfaaW.PrintLast

-- Out of the kit's printed words (Derived/Print), cut down by prune.py of this session's repo to what this claim names: no longer print.sh's own text.
import Derived.Test.YtkpidjmhdagkfaaGreatDoorWInv
import Derived.Test.YtkpidjmhdagkfaaGreatDoorWFootNe
namespace Go.Proofs.YtkpidjmhdagkfaaGreatDoorW.PrintWords
open Go.RowKit
end Go.Proofs.YtkpidjmhdagkfaaGreatDoorW.PrintWords
namespace Go.Proofs.YtkpidjmhdagkfaaGreatDoorW.PrintLast
section
variable {ops : Array Oper} {a : Act} {o og : Oper} {g : Nat} {t : Tmp} {u : Bool}
end
end Go.Proofs.YtkpidjmhdagkfaaGreatDoorW.PrintLast

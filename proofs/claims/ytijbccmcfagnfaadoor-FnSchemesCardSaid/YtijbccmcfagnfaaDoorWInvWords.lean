-- Out of the kit's printed words (Derived/Print), cut down by prune.py of this session's repo to what this claim names: no longer print.sh's own text.
import Derived.Test.YtijbccmcfagnfaaDoorWInv
import Derived.Test.YtijbccmcfagnfaaDoorWFootNe
namespace Go.Proofs.YtijbccmcfagnfaaDoorW.PrintWords
open Go.RowKit
end Go.Proofs.YtijbccmcfagnfaaDoorW.PrintWords
namespace Go.Proofs.YtijbccmcfagnfaaDoorW.PrintLast
section
variable {ops : Array Oper} {a : Act} {o og : Oper} {g : Nat} {t : Tmp} {u : Bool}
end
end Go.Proofs.YtijbccmcfagnfaaDoorW.PrintLast

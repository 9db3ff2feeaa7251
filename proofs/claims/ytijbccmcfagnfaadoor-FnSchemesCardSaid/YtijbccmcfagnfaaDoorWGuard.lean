-- Out of the kit's printed words (Derived/Print), cut down by prune.py of this session's repo to what this claim names: no longer print.sh's own text.
import Derived.Test.YtijbccmcfagnfaaDoorWWords
/-! ### 58. A guarded operation whose guard is known to want it: the same goal without the guard -/
namespace Go.Proofs.YtijbccmcfagnfaaDoorW.PrintWords
open Go.RowKit
section
variable {P : Program} {ops : Array Oper} {rest : List Oper} {o : Oper} {a : Act} {Q : Exit → Act → World → Prop} {W : World}
end
end Go.Proofs.YtijbccmcfagnfaaDoorW.PrintWords

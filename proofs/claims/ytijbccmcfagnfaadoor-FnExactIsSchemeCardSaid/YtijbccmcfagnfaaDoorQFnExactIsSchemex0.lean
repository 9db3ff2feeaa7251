-- Written by own_print.py of this session's repo over the kit's print (its output, turned at some places).
import Derived.Test.YtijbccmcfagnfaaDoorProg
import Derived.Below
import Derived.Deep.Draws
import Derived.Deep.AppendLies
import Derived.Maps.AppendAt
import Derived.OwnWalk
import Derived.Laws.BytesArg
import Derived.Laws.MakeOwn
import Derived.Laws.OwnMore
import Derived.Deep.OwnRows
import Derived.Tactics
import Derived.Lib.ConvBytes
import Derived.Laws.Slices
import Derived.WalkKit
import Derived.KernelRfl
import Derived.RowKit3
import Derived.Deep.LoopGhost
import Derived.Deep.QuietTactic
import Derived.BigQuiet
import Derived.WideLaws
import Derived.Deep.DeepCutAuto
import Derived.Deep.CutBlock
import Derived.Deep.RegionHeld3
import Derived.Laws.Rows
import Derived.Lib.AppendStr
import Derived.ArgAppend
import Derived.Laws.IdiomCopy
import Derived.OrdersHeld
import Derived.Laws.BitsLemmas
import Derived.RowKit
import Derived.Shelf.Strings.SlTrimAscii
import Derived.Shelf.Strings.Count
import Derived.Test.YtijbccmcfagnfaaDoorWWords
import Derived.Test.YtijbccmcfagnfaaDoorWLast
import Derived.Test.YtijbccmcfagnfaaDoorWTab
import Derived.Test.YtijbccmcfagnfaaDoorWFour
import Derived.Test.YtijbccmcfagnfaaDoorWQPut
import Derived.Test.YtijbccmcfagnfaaDoorWApart
import Derived.Test.YtijbccmcfagnfaaDoorWArr
import Derived.Test.YtijbccmcfagnfaaDoorWZeros
import Derived.Test.YtijbccmcfagnfaaDoorWFoot
import Derived.Test.YtijbccmcfagnfaaDoorWKept
import Derived.Test.YtijbccmcfagnfaaDoorWShare
import Derived.Test.YtijbccmcfagnfaaDoorWN
import Derived.Test.YtijbccmcfagnfaaDoorWFootNe
import Derived.Test.YtijbccmcfagnfaaDoorWAt
import Derived.Test.YtijbccmcfagnfaaDoorWEqStruct
import Derived.Test.YtijbccmcfagnfaaDoorWRepsOne
import Derived.Test.YtijbccmcfagnfaaDoorWInv
import Derived.Test.YtijbccmcfagnfaaDoorWInvWords
import Derived.Test.YtijbccmcfagnfaaDoorWGuard
import Derived.Test.YtijbccmcfagnfaaDoorWNEv
import Derived.Test.YtijbccmcfagnfaaDoorWMore
namespace Go.Proofs.YtijbccmcfagnfaaDoor.QFnExactIsScheme
open Go.RowKit Go.Proofs.YtijbccmcfagnfaaDoorW.PrintWords Go.Proofs.YtijbccmcfagnfaaDoorW.PrintLast Go.Proofs.YtijbccmcfagnfaaDoorW.PrintMore
attribute [local go_sem] max2_int min2_int max_two min_two max_three min_three max_four min_four   -- for this text's walks alone
set_option linter.unusedVariables false
set_option linter.unusedSimpArgs false



def errW : Option Int → Value
  | none => .nilIface
  | some c => .iface 0 (.int .i64 c)
theorem errW_none : errW none = .nilIface := rfl
theorem errW_some (c : Int) : errW (some c) = .iface 0 (.int .i64 c) := rfl

-- the values' own types

end Go.Proofs.YtijbccmcfagnfaaDoor.QFnExactIsScheme

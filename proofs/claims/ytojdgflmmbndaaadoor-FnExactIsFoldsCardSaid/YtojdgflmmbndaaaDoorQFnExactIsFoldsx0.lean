-- Written by own_print.py of this session's repo over the kit's print (its output, turned at some places).
import Derived.Test.YtojdgflmmbndaaaDoorProg
import Derived.Below
import Derived.Deep.Draws
import Derived.Deep.AppendLies
import Derived.Maps.AppendAt
import Derived.OwnWalk
import Derived.Laws.BytesArg
import Derived.Laws.MakeOwn
import Derived.Laws.OwnMore
import Derived.Deep.OwnRows
import Derived.Tactics
import Derived.Lib.ConvBytes
import Derived.Laws.Slices
import Derived.WalkKit
import Derived.KernelRfl
import Derived.RowKit3
import Derived.Deep.LoopGhost
import Derived.Deep.QuietTactic
import Derived.BigQuiet
import Derived.WideLaws
import Derived.Deep.DeepCutAuto
import Derived.Deep.CutBlock
import Derived.Deep.RegionHeld3
import Derived.Laws.Rows
import Derived.Lib.AppendStr
import Derived.ArgAppend
import Derived.Laws.IdiomCopy
import Derived.OrdersHeld
import Derived.Laws.BitsLemmas
import Derived.RowKit
import Derived.Shelf.Strings.SlTrimAscii
import Derived.Test.YtojdgflmmbndaaaDoorWWords
import Derived.Test.YtojdgflmmbndaaaDoorWLast
import Derived.Test.YtojdgflmmbndaaaDoorWTab
import Derived.Test.YtojdgflmmbndaaaDoorWFour
import Derived.Test.YtojdgflmmbndaaaDoorWQPut
import Derived.Test.YtojdgflmmbndaaaDoorWApart
import Derived.Test.YtojdgflmmbndaaaDoorWArr
import Derived.Test.YtojdgflmmbndaaaDoorWZeros
import Derived.Test.YtojdgflmmbndaaaDoorWFoot
import Derived.Test.YtojdgflmmbndaaaDoorWKept
import Derived.Test.YtojdgflmmbndaaaDoorWShare
import Derived.Test.YtojdgflmmbndaaaDoorWN
import Derived.Test.YtojdgflmmbndaaaDoorWFootNe
import Derived.Test.YtojdgflmmbndaaaDoorWAt
import Derived.Test.YtojdgflmmbndaaaDoorWEqStruct
import Derived.Test.YtojdgflmmbndaaaDoorWRepsOne
import Derived.Test.YtojdgflmmbndaaaDoorWInv
import Derived.Test.YtojdgflmmbndaaaDoorWInvWords
import Derived.Test.YtojdgflmmbndaaaDoorWGuard
import Derived.Test.YtojdgflmmbndaaaDoorWNEv
import Derived.Test.YtojdgflmmbndaaaDoorWMore
namespace Go.Proofs.YtojdgflmmbndaaaDoor.QFnExactIsFolds
open Go.RowKit Go.Proofs.YtojdgflmmbndaaaDoorW.PrintWords Go.Proofs.YtojdgflmmbndaaaDoorW.PrintLast Go.Proofs.YtojdgflmmbndaaaDoorW.PrintMore
attribute [local go_sem] max2_int min2_int max_two min_two max_three min_three max_four min_four   -- for this text's walks alone
set_option linter.unusedVariables false
set_option linter.unusedSimpArgs false



def errW : Option Int → Value
  | none => .nilIface
  | some c => .iface 0 (.int .i64 c)
theorem errW_none : errW none = .nilIface := rfl
theorem errW_some (c : Int) : errW (some c) = .iface 0 (.int .i64 c) := rfl

-- the values' own types

end Go.Proofs.YtojdgflmmbndaaaDoor.QFnExactIsFolds

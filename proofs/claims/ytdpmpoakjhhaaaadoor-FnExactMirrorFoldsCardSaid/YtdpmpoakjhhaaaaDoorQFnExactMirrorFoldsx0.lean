-- Written by own_print.py of this session's repo over the kit's print (its output, turned at some places).
import Derived.Test.YtdpmpoakjhhaaaaDoorProg
import Derived.Below
import Derived.Deep.Draws
import Derived.Deep.AppendLies
import Derived.Maps.AppendAt
import Derived.OwnWalk
import Derived.Laws.BytesArg
import Derived.Laws.MakeOwn
import Derived.Laws.OwnMore
import Derived.Deep.OwnRows
import Derived.Tactics
import Derived.Lib.ConvBytes
import Derived.Laws.Slices
import Derived.WalkKit
import Derived.KernelRfl
import Derived.RowKit3
import Derived.Deep.LoopGhost
import Derived.Deep.QuietTactic
import Derived.BigQuiet
import Derived.WideLaws
import Derived.Deep.DeepCutAuto
import Derived.Deep.CutBlock
import Derived.Deep.RegionHeld3
import Derived.Laws.Rows
import Derived.Lib.AppendStr
import Derived.ArgAppend
import Derived.Laws.IdiomCopy
import Derived.OrdersHeld
import Derived.Laws.BitsLemmas
import Derived.RowKit
import Derived.Shelf.Strings.SlTrimAscii
import Derived.Defers
import Derived.Laws.LoneSync
import Derived.RegionTactic
import Derived.RegionCalls
import Derived.ChangeAlike
import Derived.Laws.NewBlocks
import Derived.Laws.Pointers
import Derived.Tactics2
import Derived.Deep.WholeRow
import Derived.Lib.SliceRun
import Derived.Lib.ConvBytes
import Derived.Laws.Externs
import Derived.Lib.UnsafeStr
import Derived.Test.YtdpmpoakjhhaaaaDoorWWords
import Derived.Test.YtdpmpoakjhhaaaaDoorWLast
import Derived.Test.YtdpmpoakjhhaaaaDoorWTab
import Derived.Test.YtdpmpoakjhhaaaaDoorWFour
import Derived.Test.YtdpmpoakjhhaaaaDoorWQPut
import Derived.Test.YtdpmpoakjhhaaaaDoorWApart
import Derived.Test.YtdpmpoakjhhaaaaDoorWArr
import Derived.Test.YtdpmpoakjhhaaaaDoorWZeros
import Derived.Test.YtdpmpoakjhhaaaaDoorWFoot
import Derived.Test.YtdpmpoakjhhaaaaDoorWKept
import Derived.Test.YtdpmpoakjhhaaaaDoorWShare
import Derived.Test.YtdpmpoakjhhaaaaDoorWN
import Derived.Test.YtdpmpoakjhhaaaaDoorWFootNe
import Derived.Test.YtdpmpoakjhhaaaaDoorWAt
import Derived.Test.YtdpmpoakjhhaaaaDoorWEqStruct
import Derived.Test.YtdpmpoakjhhaaaaDoorWRepsOne
import Derived.Test.YtdpmpoakjhhaaaaDoorWInv
import Derived.Test.YtdpmpoakjhhaaaaDoorWInvWords
import Derived.Test.YtdpmpoakjhhaaaaDoorWGuard
import Derived.Test.YtdpmpoakjhhaaaaDoorWNEv
import Derived.Test.YtdpmpoakjhhaaaaDoorWMore
namespace Go.Proofs.YtdpmpoakjhhaaaaDoor.QFnExactMirrorFolds
open Go.RowKit Go.Proofs.YtdpmpoakjhhaaaaDoorW.PrintWords Go.Proofs.YtdpmpoakjhhaaaaDoorW.PrintLast Go.Proofs.YtdpmpoakjhhaaaaDoorW.PrintMore
attribute [local go_sem] max2_int min2_int max_two min_two max_three min_three max_four min_four   -- for this text's walks alone
set_option linter.unusedVariables false
set_option linter.unusedSimpArgs false



def errW : Option Int → Value
  | none => .nilIface
  | some c => .iface 0 (.int .i64 c)
theorem errW_none : errW none = .nilIface := rfl
theorem errW_some (c : Int) : errW (some c) = .iface 0 (.int .i64 c) := rfl

theorem info5 : (Tryd.prog.info? 5).map (fun i => (i.zero, i.size, i.bytes)) = some (some (.int .u8 0), 1, 1) := by kernel_rfl
-- the values' own types

end Go.Proofs.YtdpmpoakjhhaaaaDoor.QFnExactMirrorFolds

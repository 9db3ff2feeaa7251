-- Written by own_print.py of this session's repo over the kit's print (its output, turned at some places).
import Derived.Test.YtnmlnhkklbkhbaaProg
import Derived.Below
import Derived.Deep.Draws
import Derived.Deep.AppendLies
import Derived.Maps.AppendAt
import Derived.OwnWalk
import Derived.Laws.BytesArg
import Derived.Laws.MakeOwn
import Derived.Laws.OwnMore
import Derived.Deep.OwnRows
import Derived.Tactics
import Derived.Lib.ConvBytes
import Derived.Laws.Slices
import Derived.WalkKit
import Derived.KernelRfl
import Derived.RowKit3
import Derived.Deep.LoopGhost
import Derived.Deep.QuietTactic
import Derived.BigQuiet
import Derived.WideLaws
import Derived.Deep.DeepCutAuto
import Derived.Deep.CutBlock
import Derived.Deep.RegionHeld3
import Derived.Laws.Rows
import Derived.Lib.AppendStr
import Derived.ArgAppend
import Derived.Laws.IdiomCopy
import Derived.OrdersHeld
import Derived.Laws.BitsLemmas
import Derived.RowKit
import Derived.Shelf.SlicesE.Delete
import Derived.Test.YtnmlnhkklbkhbaaWWords
import Derived.Test.YtnmlnhkklbkhbaaWLast
import Derived.Test.YtnmlnhkklbkhbaaWTab
import Derived.Test.YtnmlnhkklbkhbaaWFour
import Derived.Test.YtnmlnhkklbkhbaaWQPut
import Derived.Test.YtnmlnhkklbkhbaaWApart
import Derived.Test.YtnmlnhkklbkhbaaWArr
import Derived.Test.YtnmlnhkklbkhbaaWZeros
import Derived.Test.YtnmlnhkklbkhbaaWFoot
import Derived.Test.YtnmlnhkklbkhbaaWKept
import Derived.Test.YtnmlnhkklbkhbaaWShare
import Derived.Test.YtnmlnhkklbkhbaaWN
import Derived.Test.YtnmlnhkklbkhbaaWFootNe
import Derived.Test.YtnmlnhkklbkhbaaWAt
import Derived.Test.YtnmlnhkklbkhbaaWEqStruct
import Derived.Test.YtnmlnhkklbkhbaaWRepsOne
import Derived.Test.YtnmlnhkklbkhbaaWInv
import Derived.Test.YtnmlnhkklbkhbaaWInvWords
import Derived.Test.YtnmlnhkklbkhbaaWGuard
import Derived.Test.YtnmlnhkklbkhbaaWNEv
import Derived.Test.YtnmlnhkklbkhbaaWMore
namespace Go.Proofs.Ytnmlnhkklbkhbaa.QFnRanks
open Go.RowKit Go.Proofs.YtnmlnhkklbkhbaaW.PrintWords Go.Proofs.YtnmlnhkklbkhbaaW.PrintLast Go.Proofs.YtnmlnhkklbkhbaaW.PrintMore
attribute [local go_sem] max2_int min2_int max_two min_two max_three min_three max_four min_four   -- for this text's walks alone
set_option linter.unusedVariables false
set_option linter.unusedSimpArgs false



def errW : Option Int → Value
  | none => .nilIface
  | some c => .iface 0 (.int .i64 c)
theorem errW_none : errW none = .nilIface := rfl
theorem errW_some (c : Int) : errW (some c) = .iface 0 (.int .i64 c) := rfl

theorem info2 : (Try.prog.info? 2).map (fun i => (i.zero, i.size, i.bytes)) = some (some (.int .i64 0), 1, 8) := by kernel_rfl
theorem info4 : (Try.prog.info? 4).map (fun i => (i.zero, i.size, i.bytes)) = some (some (.bool false), 1, 1) := by kernel_rfl
-- the values' own types

end Go.Proofs.Ytnmlnhkklbkhbaa.QFnRanks

-- Written by own_print.py of this session's repo over the kit's print (its output, turned at some places).
import Derived.Test.YtijbccmcfagnfaaProg
import Derived.Below
import Derived.Deep.Draws
import Derived.Deep.AppendLies
import Derived.Maps.AppendAt
import Derived.OwnWalk
import Derived.Laws.BytesArg
import Derived.Laws.MakeOwn
import Derived.Laws.OwnMore
import Derived.Deep.OwnRows
import Derived.Tactics
import Derived.Lib.ConvBytes
import Derived.Laws.Slices
import Derived.WalkKit
import Derived.KernelRfl
import Derived.RowKit3
import Derived.Deep.LoopGhost
import Derived.Deep.QuietTactic
import Derived.BigQuiet
import Derived.WideLaws
import Derived.Deep.DeepCutAuto
import Derived.Deep.CutBlock
import Derived.Deep.RegionHeld3
import Derived.Laws.Rows
import Derived.Lib.AppendStr
import Derived.ArgAppend
import Derived.Laws.IdiomCopy
import Derived.OrdersHeld
import Derived.Laws.BitsLemmas
import Derived.RowKit
import Derived.Lib.Builder
import Derived.Lib.OthersKept
import Derived.Test.YtijbccmcfagnfaaWWords
import Derived.Test.YtijbccmcfagnfaaWLast
import Derived.Test.YtijbccmcfagnfaaWTab
import Derived.Test.YtijbccmcfagnfaaWFour
import Derived.Test.YtijbccmcfagnfaaWQPut
import Derived.Test.YtijbccmcfagnfaaWApart
import Derived.Test.YtijbccmcfagnfaaWArr
import Derived.Test.YtijbccmcfagnfaaWZeros
import Derived.Test.YtijbccmcfagnfaaWFoot
import Derived.Test.YtijbccmcfagnfaaWKept
import Derived.Test.YtijbccmcfagnfaaWShare
import Derived.Test.YtijbccmcfagnfaaWN
import Derived.Test.YtijbccmcfagnfaaWFootNe
import Derived.Test.YtijbccmcfagnfaaWAt
import Derived.Test.YtijbccmcfagnfaaWEqStruct
import Derived.Test.YtijbccmcfagnfaaWRepsOne
import Derived.Test.YtijbccmcfagnfaaWInv
import Derived.Test.YtijbccmcfagnfaaWInvWords
import Derived.Test.YtijbccmcfagnfaaWGuard
import Derived.Test.YtijbccmcfagnfaaWNEv
import Derived.Test.YtijbccmcfagnfaaWMore
namespace Go.Proofs.Ytijbccmcfagnfaa.QFnExactSchemesOf
open Go.RowKit Go.Proofs.YtijbccmcfagnfaaW.PrintWords Go.Proofs.YtijbccmcfagnfaaW.PrintLast Go.Proofs.YtijbccmcfagnfaaW.PrintMore
attribute [local go_sem] max2_int min2_int max_two min_two max_three min_three max_four min_four   -- for this text's walks alone
set_option linter.unusedVariables false
set_option linter.unusedSimpArgs false



def errW : Option Int → Value
  | none => .nilIface
  | some c => .iface 0 (.int .i64 c)
theorem errW_none : errW none = .nilIface := rfl
theorem errW_some (c : Int) : errW (some c) = .iface 0 (.int .i64 c) := rfl

theorem info5 : (Try.prog.info? 5).map (fun i => (i.zero, i.size, i.bytes)) = some (some (.int .u8 0), 1, 1) := by kernel_rfl
theorem info9 : (Try.prog.info? 9).map (fun i => (i.zero, i.size, i.bytes)) = some (some (.string ⟨#[]⟩), 1, 16) := by kernel_rfl
-- the values' own types

end Go.Proofs.Ytijbccmcfagnfaa.QFnExactSchemesOf

-- Written by own_print.py of this session's repo over the kit's print (its output, turned at some places).
import Derived.Test.YtcgjeglkgdakcaaProg
import Derived.Below
import Derived.Deep.Draws
import Derived.Deep.AppendLies
import Derived.Maps.AppendAt
import Derived.OwnWalk
import Derived.Laws.BytesArg
import Derived.Laws.MakeOwn
import Derived.Laws.OwnMore
import Derived.Deep.OwnRows
import Derived.Tactics
import Derived.Lib.ConvBytes
import Derived.Laws.Slices
import Derived.WalkKit
import Derived.KernelRfl
import Derived.RowKit3
import Derived.Deep.LoopGhost
import Derived.Deep.QuietTactic
import Derived.BigQuiet
import Derived.WideLaws
import Derived.Deep.DeepCutAuto
import Derived.Deep.CutBlock
import Derived.Deep.RegionHeld3
import Derived.Laws.Rows
import Derived.Lib.AppendStr
import Derived.ArgAppend
import Derived.Laws.IdiomCopy
import Derived.OrdersHeld
import Derived.Laws.BitsLemmas
import Derived.RowKit
import Derived.Shelf.Strings.Builder1
import Derived.Lib.Builder
import Derived.Laws.Externs
import Derived.Lib.UnsafeStr
import Derived.Test.YtcgjeglkgdakcaaWWords
import Derived.Test.YtcgjeglkgdakcaaWLast
import Derived.Test.YtcgjeglkgdakcaaWTab
import Derived.Test.YtcgjeglkgdakcaaWFour
import Derived.Test.YtcgjeglkgdakcaaWQPut
import Derived.Test.YtcgjeglkgdakcaaWApart
import Derived.Test.YtcgjeglkgdakcaaWArr
import Derived.Test.YtcgjeglkgdakcaaWZeros
import Derived.Test.YtcgjeglkgdakcaaWFoot
import Derived.Test.YtcgjeglkgdakcaaWKept
import Derived.Test.YtcgjeglkgdakcaaWShare
import Derived.Test.YtcgjeglkgdakcaaWN
import Derived.Test.YtcgjeglkgdakcaaWFootNe
import Derived.Test.YtcgjeglkgdakcaaWAt
import Derived.Test.YtcgjeglkgdakcaaWEqStruct
import Derived.Test.YtcgjeglkgdakcaaWRepsOne
import Derived.Test.YtcgjeglkgdakcaaWInv
import Derived.Test.YtcgjeglkgdakcaaWInvWords
import Derived.Test.YtcgjeglkgdakcaaWGuard
import Derived.Test.YtcgjeglkgdakcaaWNEv
import Derived.Test.YtcgjeglkgdakcaaWMore
namespace Go.Proofs.Ytcgjeglkgdakcaa.QFnChapters
open Go.RowKit Go.Proofs.YtcgjeglkgdakcaaW.PrintWords Go.Proofs.YtcgjeglkgdakcaaW.PrintLast Go.Proofs.YtcgjeglkgdakcaaW.PrintMore
attribute [local go_sem] max2_int min2_int max_two min_two max_three min_three max_four min_four   -- for this text's walks alone
set_option linter.unusedVariables false
set_option linter.unusedSimpArgs false



def errW : Option Int → Value
  | none => .nilIface
  | some c => .iface 0 (.int .i64 c)
theorem errW_none : errW none = .nilIface := rfl
theorem errW_some (c : Int) : errW (some c) = .iface 0 (.int .i64 c) := rfl

theorem info2 : (Try.prog.info? 2).map (fun i => (i.zero, i.size, i.bytes)) = some (some (.int .i64 0), 1, 8) := by kernel_rfl
-- the values' own types

end Go.Proofs.Ytcgjeglkgdakcaa.QFnChapters

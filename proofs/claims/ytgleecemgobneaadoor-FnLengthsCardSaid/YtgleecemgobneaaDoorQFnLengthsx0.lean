-- Written by own_print.py of this session's repo over the kit's print (its output, turned at some places).
import Derived.Test.YtgleecemgobneaaDoorProg
import Derived.Below
import Derived.Deep.Draws
import Derived.Deep.AppendLies
import Derived.Maps.AppendAt
import Derived.OwnWalk
import Derived.Laws.BytesArg
import Derived.Laws.MakeOwn
import Derived.Laws.OwnMore
import Derived.Deep.OwnRows
import Derived.Tactics
import Derived.Lib.ConvBytes
import Derived.Laws.Slices
import Derived.WalkKit
import Derived.KernelRfl
import Derived.RowKit3
import Derived.Deep.LoopGhost
import Derived.Deep.QuietTactic
import Derived.BigQuiet
import Derived.WideLaws
import Derived.Deep.DeepCutAuto
import Derived.Deep.CutBlock
import Derived.Deep.RegionHeld3
import Derived.Laws.Rows
import Derived.Lib.AppendStr
import Derived.ArgAppend
import Derived.Laws.IdiomCopy
import Derived.OrdersHeld
import Derived.Laws.BitsLemmas
import Derived.RowKit
import Derived.Shelf.Strconv.Itoa4
import Derived.Lib.SmallJoins
import Derived.Lib.AppendIntMem
import Derived.Lib.LaidTab
import Derived.Shelf.Strings.Cut
import Derived.Shelf.Strconv.ParseIntPublic10
import Derived.Test.YtgleecemgobneaaDoorWWords
import Derived.Test.YtgleecemgobneaaDoorWLast
import Derived.Test.YtgleecemgobneaaDoorWTab
import Derived.Test.YtgleecemgobneaaDoorWFour
import Derived.Test.YtgleecemgobneaaDoorWQPut
import Derived.Test.YtgleecemgobneaaDoorWApart
import Derived.Test.YtgleecemgobneaaDoorWArr
import Derived.Test.YtgleecemgobneaaDoorWZeros
import Derived.Test.YtgleecemgobneaaDoorWFoot
import Derived.Test.YtgleecemgobneaaDoorWKept
import Derived.Test.YtgleecemgobneaaDoorWShare
import Derived.Test.YtgleecemgobneaaDoorWN
import Derived.Test.YtgleecemgobneaaDoorWFootNe
import Derived.Test.YtgleecemgobneaaDoorWAt
import Derived.Test.YtgleecemgobneaaDoorWEqStruct
import Derived.Test.YtgleecemgobneaaDoorWRepsOne
import Derived.Test.YtgleecemgobneaaDoorWInv
import Derived.Test.YtgleecemgobneaaDoorWInvWords
import Derived.Test.YtgleecemgobneaaDoorWGuard
import Derived.Test.YtgleecemgobneaaDoorWNEv
import Derived.Test.YtgleecemgobneaaDoorWMore
namespace Go.Proofs.YtgleecemgobneaaDoor.QFnLengths
open Go.RowKit Go.Proofs.YtgleecemgobneaaDoorW.PrintWords Go.Proofs.YtgleecemgobneaaDoorW.PrintLast Go.Proofs.YtgleecemgobneaaDoorW.PrintMore
attribute [local go_sem] max2_int min2_int max_two min_two max_three min_three max_four min_four   -- for this text's walks alone
set_option linter.unusedVariables false
set_option linter.unusedSimpArgs false



def errW : Option Int → Value
  | none => .nilIface
  | some c => .iface 0 (.int .i64 c)
theorem errW_none : errW none = .nilIface := rfl
theorem errW_some (c : Int) : errW (some c) = .iface 0 (.int .i64 c) := rfl

theorem info2 : (Tryd.prog.info? 2).map (fun i => (i.zero, i.size, i.bytes)) = some (some (.int .i64 0), 1, 8) := by kernel_rfl
theorem info5 : (Tryd.prog.info? 5).map (fun i => (i.zero, i.size, i.bytes)) = some (some (.int .u8 0), 1, 1) := by kernel_rfl
theorem info9 : (Tryd.prog.info? 9).map (fun i => (i.zero, i.size, i.bytes)) = some (some (.string ⟨#[]⟩), 1, 16) := by kernel_rfl
-- the values' own types

end Go.Proofs.YtgleecemgobneaaDoor.QFnLengths

-- Written by own_print.py of this session's repo over the kit's print (its output, turned at some places).
import Derived.Test.YtdpmpoakjhhaaaaGreatDoorProg
import Derived.Below
import Derived.Deep.Draws
import Derived.Deep.AppendLies
import Derived.Maps.AppendAt
import Derived.OwnWalk
import Derived.Laws.BytesArg
import Derived.Laws.MakeOwn
import Derived.Laws.OwnMore
import Derived.Deep.OwnRows
import Derived.Tactics
import Derived.Lib.ConvBytes
import Derived.Laws.Slices
import Derived.WalkKit
import Derived.KernelRfl
import Derived.RowKit3
import Derived.Deep.LoopGhost
import Derived.Deep.QuietTactic
import Derived.BigQuiet
import Derived.WideLaws
import Derived.Deep.DeepCutAuto
import Derived.Deep.CutBlock
import Derived.Deep.RegionHeld3
import Derived.Laws.Rows
import Derived.Lib.AppendStr
import Derived.ArgAppend
import Derived.Laws.IdiomCopy
import Derived.OrdersHeld
import Derived.Laws.BitsLemmas
import Derived.RowKit
import Derived.RegionTactic
import Derived.RegionCalls
import Derived.ChangeAlike
import Derived.Laws.NewBlocks
import Derived.Laws.Pointers
import Derived.Tactics2
import Derived.Deep.WholeRow
import Derived.Lib.ConvBytes
import Derived.Defers
import Derived.Laws.LoneSync
import Derived.Lib.SliceRun
import Derived.Laws.Externs
import Derived.Lib.UnsafeStr
import Derived.Shelf.Strings.SlTrimAscii
import Derived.Shelf.Strings.Count
import Derived.Test.YtdpmpoakjhhaaaaGreatDoorWWords
import Derived.Test.YtdpmpoakjhhaaaaGreatDoorWLast
import Derived.Test.YtdpmpoakjhhaaaaGreatDoorWTab
import Derived.Test.YtdpmpoakjhhaaaaGreatDoorWFour
import Derived.Test.YtdpmpoakjhhaaaaGreatDoorWQPut
import Derived.Test.YtdpmpoakjhhaaaaGreatDoorWApart
import Derived.Test.YtdpmpoakjhhaaaaGreatDoorWArr
import Derived.Test.YtdpmpoakjhhaaaaGreatDoorWZeros
import Derived.Test.YtdpmpoakjhhaaaaGreatDoorWFoot
import Derived.Test.YtdpmpoakjhhaaaaGreatDoorWKept
import Derived.Test.YtdpmpoakjhhaaaaGreatDoorWShare
import Derived.Test.YtdpmpoakjhhaaaaGreatDoorWN
import Derived.Test.YtdpmpoakjhhaaaaGreatDoorWFootNe
import Derived.Test.YtdpmpoakjhhaaaaGreatDoorWAt
import Derived.Test.YtdpmpoakjhhaaaaGreatDoorWEqStruct
import Derived.Test.YtdpmpoakjhhaaaaGreatDoorWRepsOne
import Derived.Test.YtdpmpoakjhhaaaaGreatDoorWInv
import Derived.Test.YtdpmpoakjhhaaaaGreatDoorWInvWords
import Derived.Test.YtdpmpoakjhhaaaaGreatDoorWGuard
import Derived.Test.YtdpmpoakjhhaaaaGreatDoorWNEv
import Derived.Test.YtdpmpoakjhhaaaaGreatDoorWMore
namespace Go.Proofs.YtdpmpoakjhhaaaaGreatDoor.QFnExactMirrorScheme
open Go.RowKit Go.Proofs.YtdpmpoakjhhaaaaGreatDoorW.PrintWords Go.Proofs.YtdpmpoakjhhaaaaGreatDoorW.PrintLast Go.Proofs.YtdpmpoakjhhaaaaGreatDoorW.PrintMore
attribute [local go_sem] max2_int min2_int max_two min_two max_three min_three max_four min_four   -- for this text's walks alone
set_option linter.unusedVariables false
set_option linter.unusedSimpArgs false



def errW : Option Int → Value
  | none => .nilIface
  | some c => .iface 0 (.int .i64 c)
theorem errW_none : errW none = .nilIface := rfl
theorem errW_some (c : Int) : errW (some c) = .iface 0 (.int .i64 c) := rfl

-- the values' own types

end Go.Proofs.YtdpmpoakjhhaaaaGreatDoor.QFnExactMirrorScheme

-- Written by own_print.py of this session's repo over the kit's print (its output, turned at some places).
import Derived.Test.YtkpidjmhdagkfaaProg
import Derived.Below
import Derived.Deep.Draws
import Derived.Deep.AppendLies
import Derived.Maps.AppendAt
import Derived.OwnWalk
import Derived.Laws.BytesArg
import Derived.Laws.MakeOwn
import Derived.Laws.OwnMore
import Derived.Deep.OwnRows
import Derived.Tactics
import Derived.Lib.ConvBytes
import Derived.Laws.Slices
import Derived.WalkKit
import Derived.KernelRfl
import Derived.RowKit3
import Derived.Deep.LoopGhost
import Derived.Deep.QuietTactic
import Derived.BigQuiet
import Derived.WideLaws
import Derived.Deep.DeepCutAuto
import Derived.Deep.CutBlock
import Derived.Deep.RegionHeld3
import Derived.Laws.Rows
import Derived.Lib.AppendStr
import Derived.ArgAppend
import Derived.Laws.IdiomCopy
import Derived.OrdersHeld
import Derived.Laws.BitsLemmas
import Derived.RowKit
import Derived.Shelf.SlIterI.Sorted
import Derived.Shelf.SortM.Plain
import Derived.Shelf.SortM.SortNone
import Derived.Ground.GgzProg
import Derived.Ground.SlgmProg
import Derived.RangeFuncBox
import Derived.RangeFuncLeaves
import Derived.Shelf.Abstract
import Derived.OwnWalkIn
import Derived.TacticsInMore
import Derived.LoopNIn
import Derived.LoopIn
import Derived.Deep.Slices
import Derived.Shelf.Spec.SlicesGrow
import Derived.Lib.SliceRun
import Derived.Test.YtkpidjmhdagkfaaWWords
import Derived.Test.YtkpidjmhdagkfaaWLast
import Derived.Test.YtkpidjmhdagkfaaWTab
import Derived.Test.YtkpidjmhdagkfaaWFour
import Derived.Test.YtkpidjmhdagkfaaWQPut
import Derived.Test.YtkpidjmhdagkfaaWApart
import Derived.Test.YtkpidjmhdagkfaaWArr
import Derived.Test.YtkpidjmhdagkfaaWZeros
import Derived.Test.YtkpidjmhdagkfaaWFoot
import Derived.Test.YtkpidjmhdagkfaaWKept
import Derived.Test.YtkpidjmhdagkfaaWShare
import Derived.Test.YtkpidjmhdagkfaaWN
import Derived.Test.YtkpidjmhdagkfaaWFootNe
import Derived.Test.YtkpidjmhdagkfaaWAt
import Derived.Test.YtkpidjmhdagkfaaWEqStruct
import Derived.Test.YtkpidjmhdagkfaaWRepsOne
import Derived.Test.YtkpidjmhdagkfaaWInv
import Derived.Test.YtkpidjmhdagkfaaWInvWords
import Derived.Test.YtkpidjmhdagkfaaWGuard
import Derived.Test.YtkpidjmhdagkfaaWNEv
import Derived.Test.YtkpidjmhdagkfaaWMore
namespace Go.Proofs.Ytkpidjmhdagkfaa.QFnExactShiftForm
open Go.RowKit Go.Proofs.YtkpidjmhdagkfaaW.PrintWords Go.Proofs.YtkpidjmhdagkfaaW.PrintLast Go.Proofs.YtkpidjmhdagkfaaW.PrintMore
attribute [local go_sem] max2_int min2_int max_two min_two max_three min_three max_four min_four   -- for this text's walks alone
set_option linter.unusedVariables false
set_option linter.unusedSimpArgs false



def errW : Option Int → Value
  | none => .nilIface
  | some c => .iface 0 (.int .i64 c)
theorem errW_none : errW none = .nilIface := rfl
theorem errW_some (c : Int) : errW (some c) = .iface 0 (.int .i64 c) := rfl

theorem info2 : (Try.prog.info? 2).map (fun i => (i.zero, i.size, i.bytes)) = some (some (.int .i64 0), 1, 8) := by kernel_rfl
theorem info22 : (Try.prog.info? 22).map (fun i => (i.zero, i.size, i.bytes)) = some (some (.slice none 0 0), 1, 24) := by kernel_rfl
-- the values' own types
def rd_L1 (xs : List (List Int)) (i : Int) : (List Int) := xs.getD i.toNat ([] : List Int)
theorem at_L1 {w : World} {A : Option Addr} {n : Nat} {xs : List (List Int)} (h : Kd.C (Kd.slice 2 (Kd.int .i64)) w A n xs) (i : Int) (h0 : 0 ≤ i) (h1 : i < n) : ∃ ad A0 c0, A = some ad ∧ w.cell? (ad.add i.toNat) = some (.slice A0 (rd_L1 xs i).length c0) ∧ (rd_L1 xs i).length ≤ c0 ∧ (Kd.int .i64).C w A0 (rd_L1 xs i).length (rd_L1 xs i) := by
  obtain ⟨ad, c, e, _, hK, hc0⟩ := Kd.C_get h ([] : List Int) i h0 h1
  have hc : ∀ j u, c[j]? = some u → w.cell? (ad.add (i.toNat * 1 + j)) = some u := hc0
  obtain ⟨A0, c0, rfl, l0, g0⟩ := hK
  exact ⟨ad, A0, c0, e, by have hq := hc 0 _ rfl; rwa [Nat.mul_one, Nat.add_zero] at hq, l0, g0⟩

/-! ### words of squeeze.py -/
abbrev nb_ (k : Nat) (a : Option Addr) (n c : Nat) : Prop := some k ≠ (Value.slice a n c).ownBlock
theorem ra_ {P Q : Prop} (h : P) (k : P → Q := by (intro h_; (with_reducible repeat (first | apply Kd.R_alloc | apply Kd.R_drewN | apply Kd.R_drew)); exact h_)) : Q := k h
theorem rb_ {P Q : Prop} (h : P) (k : P → Q := by (intro h_; (with_reducible repeat (first | refine blk_drewN ?_ _ | refine blk_drew ?_ | refine blk_alloc ?_ _)); exact h_)) : Q := k h
end Go.Proofs.Ytkpidjmhdagkfaa.QFnExactShiftForm

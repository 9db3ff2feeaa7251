/-
  No cell of these rows narrows 'for every input' (looked for: loops, veiled, ifaces, maps, wideKeys, modest, calm, conditions, laid).
  DERIVED. THE GIVEN ROWS OF THIS SEAT. 12 by the template 'for every input the law returns true; each argument reads behind the call as it read before'; 0 by the template 'total and deterministic' (their statements: YtlenplkbfapjnaaTotals.lean).
  GIVEN WITH THE SEED: the statements are not yours to turn. If you find one false, say at which input.
  Laid BY PROGRAM, IN A SANDBOX (cutbox-rows.mjs): the forced cells as the released guide's own fill.sh prints them over the translation f56244e00dbc58fb… (all of the seat's roots in one cut). By AI agents, Wed Nov 11 2026. No macro, syntax, notation, axiom, sorry.
-/
import Derived.Test.YtlenplkbfapjnaaChecked
import GoSem.Claim
import GoSem.ClaimJoined
import GoSem.ClaimMapViews
import Derived.JoinedTies
import Derived.KernelRfl
namespace Go.Proofs.Ytlenplkbfapjnaa
/- THE CELL 'sum', in the pinned program and in every row, IS THE sha256 OF THE DUMP (.gsa) THAT YtlenplkbfapjnaaProg.lean LOADS. Nothing in Lean hashes anything: it is a label: what it is worth is what the hold of that sum in a sandbox is worth. -/
noncomputable def Try.pinned : Pinned := { name := "ytlenplkbfapjnaa", sum := "f56244e00dbc58fbbc6c8acecb55ba59e748582f7ba4676b0f2af983571fdacc", checked := Try.checked }
namespace Rows
def none {H : Type} : Left H := { results := [], args := [] }

/-- 'laws.FnExactConstants': WHATEVER THE INPUT: true; the input reads as it did. -/
def fnExactConstantsSpec : ChangeSpec := { name := "fnExactConstants", fn := fun _ => fun
  | [] => { results := [.lit (.bool true)], args := [] }
  | _ => none }
def fnExactConstantsRow : OpenClaim := { program := "ytlenplkbfapjnaa", sum := "f56244e00dbc58fbbc6c8acecb55ba59e748582f7ba4676b0f2af983571fdacc", func := "loop.example/g00944/laws.FnExactConstants", spec := "fnExactConstants", apart := false }
def FnExactConstantsSaid : Prop := fnExactConstantsRow.holds Try.pinned (OpenSpec.ofChange fnExactConstantsSpec)

/-- ITS FALSE NEIGHBOUR: 'it returns false'. Refute it at one input. -/
def fnExactConstantsWrong : ChangeSpec := { name := "fnExactConstants", fn := fun _ => fun
  | [] => { results := [.lit (.bool false)], args := [] }
  | _ => none }
def FnExactConstantsWrongFalsely : Prop := fnExactConstantsRow.holds Try.pinned (OpenSpec.ofChange fnExactConstantsWrong)

/-- 'laws.FnExactIsUnit': WHATEVER THE INPUT: true; the input reads as it did. -/
def fnExactIsUnitSpec : ChangeSpec := { name := "fnExactIsUnit", fn := fun _ => fun
  | [d] => { results := [.lit (.bool true)], args := [d] }
  | _ => none }
def fnExactIsUnitRow : OpenClaim := { program := "ytlenplkbfapjnaa", sum := "f56244e00dbc58fbbc6c8acecb55ba59e748582f7ba4676b0f2af983571fdacc", func := "loop.example/g00944/laws.FnExactIsUnit", spec := "fnExactIsUnit", apart := false }
def FnExactIsUnitSaid : Prop := fnExactIsUnitRow.holds Try.pinned (OpenSpec.ofChange fnExactIsUnitSpec)

/-- ITS FALSE NEIGHBOUR: 'it returns false'. Refute it at one input. -/
def fnExactIsUnitWrong : ChangeSpec := { name := "fnExactIsUnit", fn := fun _ => fun
  | [d] => { results := [.lit (.bool false)], args := [d] }
  | _ => none }
def FnExactIsUnitWrongFalsely : Prop := fnExactIsUnitRow.holds Try.pinned (OpenSpec.ofChange fnExactIsUnitWrong)

/-- 'laws.FnExactPartnerOf': WHATEVER THE INPUT: true; the input reads as it did. -/
def fnExactPartnerOfSpec : ChangeSpec := { name := "fnExactPartnerOf", fn := fun _ => fun
  | [d1, d2] => { results := [.lit (.bool true)], args := [d1, d2] }
  | _ => none }
def fnExactPartnerOfRow : OpenClaim := { program := "ytlenplkbfapjnaa", sum := "f56244e00dbc58fbbc6c8acecb55ba59e748582f7ba4676b0f2af983571fdacc", func := "loop.example/g00944/laws.FnExactPartnerOf", spec := "fnExactPartnerOf", apart := false }
def FnExactPartnerOfSaid : Prop := fnExactPartnerOfRow.holds Try.pinned (OpenSpec.ofChange fnExactPartnerOfSpec)

/-- ITS FALSE NEIGHBOUR: 'it returns false'. Refute it at one input. -/
def fnExactPartnerOfWrong : ChangeSpec := { name := "fnExactPartnerOf", fn := fun _ => fun
  | [d1, d2] => { results := [.lit (.bool false)], args := [d1, d2] }
  | _ => none }
def FnExactPartnerOfWrongFalsely : Prop := fnExactPartnerOfRow.holds Try.pinned (OpenSpec.ofChange fnExactPartnerOfWrong)

/-- 'laws.FnExactPaddedCount': WHATEVER THE INPUT: true; the input reads as it did. -/
def fnExactPaddedCountSpec : ChangeSpec := { name := "fnExactPaddedCount", fn := fun _ => fun
  | [d1, d2] => { results := [.lit (.bool true)], args := [d1, d2] }
  | _ => none }
def fnExactPaddedCountRow : OpenClaim := { program := "ytlenplkbfapjnaa", sum := "f56244e00dbc58fbbc6c8acecb55ba59e748582f7ba4676b0f2af983571fdacc", func := "loop.example/g00944/laws.FnExactPaddedCount", spec := "fnExactPaddedCount", apart := false }
def FnExactPaddedCountSaid : Prop := fnExactPaddedCountRow.holds Try.pinned (OpenSpec.ofChange fnExactPaddedCountSpec)

/-- ITS FALSE NEIGHBOUR: 'it returns false'. Refute it at one input. -/
def fnExactPaddedCountWrong : ChangeSpec := { name := "fnExactPaddedCount", fn := fun _ => fun
  | [d1, d2] => { results := [.lit (.bool false)], args := [d1, d2] }
  | _ => none }
def FnExactPaddedCountWrongFalsely : Prop := fnExactPaddedCountRow.holds Try.pinned (OpenSpec.ofChange fnExactPaddedCountWrong)

/-- 'laws.FnExactIsOrder': WHATEVER THE INPUT: true; the input reads as it did. -/
def fnExactIsOrderSpec : ChangeSpec := { name := "fnExactIsOrder", fn := fun _ => fun
  | [d] => { results := [.lit (.bool true)], args := [d] }
  | _ => none }
def fnExactIsOrderRow : OpenClaim := { program := "ytlenplkbfapjnaa", sum := "f56244e00dbc58fbbc6c8acecb55ba59e748582f7ba4676b0f2af983571fdacc", func := "loop.example/g00944/laws.FnExactIsOrder", spec := "fnExactIsOrder", apart := false }
def FnExactIsOrderSaid : Prop := fnExactIsOrderRow.holds Try.pinned (OpenSpec.ofChange fnExactIsOrderSpec)

/-- ITS FALSE NEIGHBOUR: 'it returns false'. Refute it at one input. -/
def fnExactIsOrderWrong : ChangeSpec := { name := "fnExactIsOrder", fn := fun _ => fun
  | [d] => { results := [.lit (.bool false)], args := [d] }
  | _ => none }
def FnExactIsOrderWrongFalsely : Prop := fnExactIsOrderRow.holds Try.pinned (OpenSpec.ofChange fnExactIsOrderWrong)

/-- 'laws.FnExactEvenShares': WHATEVER THE INPUT: true; the input reads as it did. -/
def fnExactEvenSharesSpec : ChangeSpec := { name := "fnExactEvenShares", fn := fun _ => fun
  | [d1, d2] => { results := [.lit (.bool true)], args := [d1, d2] }
  | _ => none }
def fnExactEvenSharesRow : OpenClaim := { program := "ytlenplkbfapjnaa", sum := "f56244e00dbc58fbbc6c8acecb55ba59e748582f7ba4676b0f2af983571fdacc", func := "loop.example/g00944/laws.FnExactEvenShares", spec := "fnExactEvenShares", apart := false }
def FnExactEvenSharesSaid : Prop := fnExactEvenSharesRow.holds Try.pinned (OpenSpec.ofChange fnExactEvenSharesSpec)

/-- ITS FALSE NEIGHBOUR: 'it returns false'. Refute it at one input. -/
def fnExactEvenSharesWrong : ChangeSpec := { name := "fnExactEvenShares", fn := fun _ => fun
  | [d1, d2] => { results := [.lit (.bool false)], args := [d1, d2] }
  | _ => none }
def FnExactEvenSharesWrongFalsely : Prop := fnExactEvenSharesRow.holds Try.pinned (OpenSpec.ofChange fnExactEvenSharesWrong)

/-- 'laws.FnShares': WHATEVER THE INPUT: true; the input reads as it did. -/
def fnSharesSpec : ChangeSpec := { name := "fnShares", fn := fun _ => fun
  | [d] => { results := [.lit (.bool true)], args := [d] }
  | _ => none }
def fnSharesRow : OpenClaim := { program := "ytlenplkbfapjnaa", sum := "f56244e00dbc58fbbc6c8acecb55ba59e748582f7ba4676b0f2af983571fdacc", func := "loop.example/g00944/laws.FnShares", spec := "fnShares", apart := false }
def FnSharesSaid : Prop := fnSharesRow.holds Try.pinned (OpenSpec.ofChange fnSharesSpec)

/-- ITS FALSE NEIGHBOUR: 'it returns false'. Refute it at one input. -/
def fnSharesWrong : ChangeSpec := { name := "fnShares", fn := fun _ => fun
  | [d] => { results := [.lit (.bool false)], args := [d] }
  | _ => none }
def FnSharesWrongFalsely : Prop := fnSharesRow.holds Try.pinned (OpenSpec.ofChange fnSharesWrong)

/-- 'laws.FnExactComposeOrders': WHATEVER THE INPUT: true; the input reads as it did. -/
def fnExactComposeOrdersSpec : ChangeSpec := { name := "fnExactComposeOrders", fn := fun _ => fun
  | [d1, d2] => { results := [.lit (.bool true)], args := [d1, d2] }
  | _ => none }
def fnExactComposeOrdersRow : OpenClaim := { program := "ytlenplkbfapjnaa", sum := "f56244e00dbc58fbbc6c8acecb55ba59e748582f7ba4676b0f2af983571fdacc", func := "loop.example/g00944/laws.FnExactComposeOrders", spec := "fnExactComposeOrders", apart := false }
def FnExactComposeOrdersSaid : Prop := fnExactComposeOrdersRow.holds Try.pinned (OpenSpec.ofChange fnExactComposeOrdersSpec)

/-- ITS FALSE NEIGHBOUR: 'it returns false'. Refute it at one input. -/
def fnExactComposeOrdersWrong : ChangeSpec := { name := "fnExactComposeOrders", fn := fun _ => fun
  | [d1, d2] => { results := [.lit (.bool false)], args := [d1, d2] }
  | _ => none }
def FnExactComposeOrdersWrongFalsely : Prop := fnExactComposeOrdersRow.holds Try.pinned (OpenSpec.ofChange fnExactComposeOrdersWrong)

/-- 'laws.FnExactInverseOrder': WHATEVER THE INPUT: true; the input reads as it did. -/
def fnExactInverseOrderSpec : ChangeSpec := { name := "fnExactInverseOrder", fn := fun _ => fun
  | [d] => { results := [.lit (.bool true)], args := [d] }
  | _ => none }
def fnExactInverseOrderRow : OpenClaim := { program := "ytlenplkbfapjnaa", sum := "f56244e00dbc58fbbc6c8acecb55ba59e748582f7ba4676b0f2af983571fdacc", func := "loop.example/g00944/laws.FnExactInverseOrder", spec := "fnExactInverseOrder", apart := false }
def FnExactInverseOrderSaid : Prop := fnExactInverseOrderRow.holds Try.pinned (OpenSpec.ofChange fnExactInverseOrderSpec)

/-- ITS FALSE NEIGHBOUR: 'it returns false'. Refute it at one input. -/
def fnExactInverseOrderWrong : ChangeSpec := { name := "fnExactInverseOrder", fn := fun _ => fun
  | [d] => { results := [.lit (.bool false)], args := [d] }
  | _ => none }
def FnExactInverseOrderWrongFalsely : Prop := fnExactInverseOrderRow.holds Try.pinned (OpenSpec.ofChange fnExactInverseOrderWrong)

/-- 'laws.FnOrders': WHATEVER THE INPUT: true; the input reads as it did. -/
def fnOrdersSpec : ChangeSpec := { name := "fnOrders", fn := fun _ => fun
  | [d] => { results := [.lit (.bool true)], args := [d] }
  | _ => none }
def fnOrdersRow : OpenClaim := { program := "ytlenplkbfapjnaa", sum := "f56244e00dbc58fbbc6c8acecb55ba59e748582f7ba4676b0f2af983571fdacc", func := "loop.example/g00944/laws.FnOrders", spec := "fnOrders", apart := false }
def FnOrdersSaid : Prop := fnOrdersRow.holds Try.pinned (OpenSpec.ofChange fnOrdersSpec)

/-- ITS FALSE NEIGHBOUR: 'it returns false'. Refute it at one input. -/
def fnOrdersWrong : ChangeSpec := { name := "fnOrders", fn := fun _ => fun
  | [d] => { results := [.lit (.bool false)], args := [d] }
  | _ => none }
def FnOrdersWrongFalsely : Prop := fnOrdersRow.holds Try.pinned (OpenSpec.ofChange fnOrdersWrong)

/-- 'laws.FnExactRankOrder': WHATEVER THE INPUT: true; the input reads as it did. -/
def fnExactRankOrderSpec : ChangeSpec := { name := "fnExactRankOrder", fn := fun _ => fun
  | [d] => { results := [.lit (.bool true)], args := [d] }
  | _ => none }
def fnExactRankOrderRow : OpenClaim := { program := "ytlenplkbfapjnaa", sum := "f56244e00dbc58fbbc6c8acecb55ba59e748582f7ba4676b0f2af983571fdacc", func := "loop.example/g00944/laws.FnExactRankOrder", spec := "fnExactRankOrder", apart := false }
def FnExactRankOrderSaid : Prop := fnExactRankOrderRow.holds Try.pinned (OpenSpec.ofChange fnExactRankOrderSpec)

/-- ITS FALSE NEIGHBOUR: 'it returns false'. Refute it at one input. -/
def fnExactRankOrderWrong : ChangeSpec := { name := "fnExactRankOrder", fn := fun _ => fun
  | [d] => { results := [.lit (.bool false)], args := [d] }
  | _ => none }
def FnExactRankOrderWrongFalsely : Prop := fnExactRankOrderRow.holds Try.pinned (OpenSpec.ofChange fnExactRankOrderWrong)

/-- 'laws.FnExactOrderOfRank': WHATEVER THE INPUT: true; the input reads as it did. -/
def fnExactOrderOfRankSpec : ChangeSpec := { name := "fnExactOrderOfRank", fn := fun _ => fun
  | [d1, d2] => { results := [.lit (.bool true)], args := [d1, d2] }
  | _ => none }
def fnExactOrderOfRankRow : OpenClaim := { program := "ytlenplkbfapjnaa", sum := "f56244e00dbc58fbbc6c8acecb55ba59e748582f7ba4676b0f2af983571fdacc", func := "loop.example/g00944/laws.FnExactOrderOfRank", spec := "fnExactOrderOfRank", apart := false }
def FnExactOrderOfRankSaid : Prop := fnExactOrderOfRankRow.holds Try.pinned (OpenSpec.ofChange fnExactOrderOfRankSpec)

/-- ITS FALSE NEIGHBOUR: 'it returns false'. Refute it at one input. -/
def fnExactOrderOfRankWrong : ChangeSpec := { name := "fnExactOrderOfRank", fn := fun _ => fun
  | [d1, d2] => { results := [.lit (.bool false)], args := [d1, d2] }
  | _ => none }
def FnExactOrderOfRankWrongFalsely : Prop := fnExactOrderOfRankRow.holds Try.pinned (OpenSpec.ofChange fnExactOrderOfRankWrong)

/- THE SECOND FORM. 'bulk': how many values and letters a reading holds, each counted each time it is reached (what is shared counts as often as it is met; a slice's spare places count too). A statement '..UptoSaid' is the law's where the arguments, and the package variables that the reading takes, are together of bulk at most 1048576: NARROWER than '..Said'. Prove '..Said' where nothing that the law and all that it calls make is longer than what came in: it says more and counts as full. Else prove '..UptoSaid'. A law counts once. -/
mutual
def uptoBulk {H : Type} : DataW H → Nat
  | .lit (.string bytes) => bytes.length + 1
  | .lit _ => 1
  | .nil => 1
  | .ptr d => uptoBulk d + 1
  | .slice elems spare => uptoBulkAll elems + uptoBulkAll spare + 1
  | .agg parts => uptoBulkAll parts + 1
  | .iface _ d => uptoBulk d + 1
  | .map entries => uptoBulkEntries entries + 1
  | .held _ => 1
def uptoBulkAll {H : Type} : List (DataW H) → Nat
  | [] => 0
  | d :: r => uptoBulk d + uptoBulkAll r
def uptoBulkEntries {H : Type} : List (Lit × DataW H) → Nat
  | [] => 0
  | x :: r => uptoBulkEntry x + uptoBulkEntries r
def uptoBulkEntry {H : Type} : Lit × DataW H → Nat
  | (.string bytes, d) => bytes.length + uptoBulk d + 1
  | (_, d) => uptoBulk d + 1
 end
def uptoSmall : (H : Type) → List (DataW H) → Bool := fun _ ds => decide (uptoBulkAll ds ≤ 1048576)
def OpenSpec.upto (s : _root_.Go.ChangeSpec) : _root_.Go.OpenSpec := { _root_.Go.OpenSpec.ofChange s with cond := some uptoSmall }

/-- 'laws.FnExactConstants', WHERE WHAT IT READS IS OF BULK AT MOST 1048576: true; the input reads as it did. -/
def fnExactConstantsUptoRow : OpenClaim := { program := "ytlenplkbfapjnaa", sum := "f56244e00dbc58fbbc6c8acecb55ba59e748582f7ba4676b0f2af983571fdacc", func := "loop.example/g00944/laws.FnExactConstants", spec := "fnExactConstants", apart := false, narrowed := true }
def FnExactConstantsUptoSaid : Prop := fnExactConstantsUptoRow.holds Try.pinned (OpenSpec.upto fnExactConstantsSpec)

/-- 'laws.FnExactIsUnit', WHERE WHAT IT READS IS OF BULK AT MOST 1048576: true; the input reads as it did. -/
def fnExactIsUnitUptoRow : OpenClaim := { program := "ytlenplkbfapjnaa", sum := "f56244e00dbc58fbbc6c8acecb55ba59e748582f7ba4676b0f2af983571fdacc", func := "loop.example/g00944/laws.FnExactIsUnit", spec := "fnExactIsUnit", apart := false, narrowed := true }
def FnExactIsUnitUptoSaid : Prop := fnExactIsUnitUptoRow.holds Try.pinned (OpenSpec.upto fnExactIsUnitSpec)

/-- 'laws.FnExactPartnerOf', WHERE WHAT IT READS IS OF BULK AT MOST 1048576: true; the input reads as it did. -/
def fnExactPartnerOfUptoRow : OpenClaim := { program := "ytlenplkbfapjnaa", sum := "f56244e00dbc58fbbc6c8acecb55ba59e748582f7ba4676b0f2af983571fdacc", func := "loop.example/g00944/laws.FnExactPartnerOf", spec := "fnExactPartnerOf", apart := false, narrowed := true }
def FnExactPartnerOfUptoSaid : Prop := fnExactPartnerOfUptoRow.holds Try.pinned (OpenSpec.upto fnExactPartnerOfSpec)

/-- 'laws.FnExactPaddedCount', WHERE WHAT IT READS IS OF BULK AT MOST 1048576: true; the input reads as it did. -/
def fnExactPaddedCountUptoRow : OpenClaim := { program := "ytlenplkbfapjnaa", sum := "f56244e00dbc58fbbc6c8acecb55ba59e748582f7ba4676b0f2af983571fdacc", func := "loop.example/g00944/laws.FnExactPaddedCount", spec := "fnExactPaddedCount", apart := false, narrowed := true }
def FnExactPaddedCountUptoSaid : Prop := fnExactPaddedCountUptoRow.holds Try.pinned (OpenSpec.upto fnExactPaddedCountSpec)

/-- 'laws.FnExactIsOrder', WHERE WHAT IT READS IS OF BULK AT MOST 1048576: true; the input reads as it did. -/
def fnExactIsOrderUptoRow : OpenClaim := { program := "ytlenplkbfapjnaa", sum := "f56244e00dbc58fbbc6c8acecb55ba59e748582f7ba4676b0f2af983571fdacc", func := "loop.example/g00944/laws.FnExactIsOrder", spec := "fnExactIsOrder", apart := false, narrowed := true }
def FnExactIsOrderUptoSaid : Prop := fnExactIsOrderUptoRow.holds Try.pinned (OpenSpec.upto fnExactIsOrderSpec)

/-- 'laws.FnExactEvenShares', WHERE WHAT IT READS IS OF BULK AT MOST 1048576: true; the input reads as it did. -/
def fnExactEvenSharesUptoRow : OpenClaim := { program := "ytlenplkbfapjnaa", sum := "f56244e00dbc58fbbc6c8acecb55ba59e748582f7ba4676b0f2af983571fdacc", func := "loop.example/g00944/laws.FnExactEvenShares", spec := "fnExactEvenShares", apart := false, narrowed := true }
def FnExactEvenSharesUptoSaid : Prop := fnExactEvenSharesUptoRow.holds Try.pinned (OpenSpec.upto fnExactEvenSharesSpec)

/-- 'laws.FnShares', WHERE WHAT IT READS IS OF BULK AT MOST 1048576: true; the input reads as it did. -/
def fnSharesUptoRow : OpenClaim := { program := "ytlenplkbfapjnaa", sum := "f56244e00dbc58fbbc6c8acecb55ba59e748582f7ba4676b0f2af983571fdacc", func := "loop.example/g00944/laws.FnShares", spec := "fnShares", apart := false, narrowed := true }
def FnSharesUptoSaid : Prop := fnSharesUptoRow.holds Try.pinned (OpenSpec.upto fnSharesSpec)

/-- 'laws.FnExactComposeOrders', WHERE WHAT IT READS IS OF BULK AT MOST 1048576: true; the input reads as it did. -/
def fnExactComposeOrdersUptoRow : OpenClaim := { program := "ytlenplkbfapjnaa", sum := "f56244e00dbc58fbbc6c8acecb55ba59e748582f7ba4676b0f2af983571fdacc", func := "loop.example/g00944/laws.FnExactComposeOrders", spec := "fnExactComposeOrders", apart := false, narrowed := true }
def FnExactComposeOrdersUptoSaid : Prop := fnExactComposeOrdersUptoRow.holds Try.pinned (OpenSpec.upto fnExactComposeOrdersSpec)

/-- 'laws.FnExactInverseOrder', WHERE WHAT IT READS IS OF BULK AT MOST 1048576: true; the input reads as it did. -/
def fnExactInverseOrderUptoRow : OpenClaim := { program := "ytlenplkbfapjnaa", sum := "f56244e00dbc58fbbc6c8acecb55ba59e748582f7ba4676b0f2af983571fdacc", func := "loop.example/g00944/laws.FnExactInverseOrder", spec := "fnExactInverseOrder", apart := false, narrowed := true }
def FnExactInverseOrderUptoSaid : Prop := fnExactInverseOrderUptoRow.holds Try.pinned (OpenSpec.upto fnExactInverseOrderSpec)

/-- 'laws.FnOrders', WHERE WHAT IT READS IS OF BULK AT MOST 1048576: true; the input reads as it did. -/
def fnOrdersUptoRow : OpenClaim := { program := "ytlenplkbfapjnaa", sum := "f56244e00dbc58fbbc6c8acecb55ba59e748582f7ba4676b0f2af983571fdacc", func := "loop.example/g00944/laws.FnOrders", spec := "fnOrders", apart := false, narrowed := true }
def FnOrdersUptoSaid : Prop := fnOrdersUptoRow.holds Try.pinned (OpenSpec.upto fnOrdersSpec)

/-- 'laws.FnExactRankOrder', WHERE WHAT IT READS IS OF BULK AT MOST 1048576: true; the input reads as it did. -/
def fnExactRankOrderUptoRow : OpenClaim := { program := "ytlenplkbfapjnaa", sum := "f56244e00dbc58fbbc6c8acecb55ba59e748582f7ba4676b0f2af983571fdacc", func := "loop.example/g00944/laws.FnExactRankOrder", spec := "fnExactRankOrder", apart := false, narrowed := true }
def FnExactRankOrderUptoSaid : Prop := fnExactRankOrderUptoRow.holds Try.pinned (OpenSpec.upto fnExactRankOrderSpec)

/-- 'laws.FnExactOrderOfRank', WHERE WHAT IT READS IS OF BULK AT MOST 1048576: true; the input reads as it did. -/
def fnExactOrderOfRankUptoRow : OpenClaim := { program := "ytlenplkbfapjnaa", sum := "f56244e00dbc58fbbc6c8acecb55ba59e748582f7ba4676b0f2af983571fdacc", func := "loop.example/g00944/laws.FnExactOrderOfRank", spec := "fnExactOrderOfRank", apart := false, narrowed := true }
def FnExactOrderOfRankUptoSaid : Prop := fnExactOrderOfRankUptoRow.holds Try.pinned (OpenSpec.upto fnExactOrderOfRankSpec)

end Rows
end Go.Proofs.Ytlenplkbfapjnaa

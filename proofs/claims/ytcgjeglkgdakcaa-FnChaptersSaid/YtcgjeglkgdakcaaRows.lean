/-
  No cell of these rows narrows 'for every input' (looked for: loops, veiled, ifaces, maps, wideKeys, modest, calm, conditions, laid).
  DERIVED. THE GIVEN ROWS OF THIS SEAT. 9 by the template 'for every input the law returns true; each argument reads behind the call as it read before'; 0 by the template 'total and deterministic' (their statements: YtcgjeglkgdakcaaTotals.lean).
  GIVEN WITH THE SEED: the statements are not yours to turn. If you find one false, say at which input.
  Laid BY PROGRAM, IN A SANDBOX (cutbox-rows.mjs): the forced cells as the released guide's own fill.sh prints them over the translation e2c93ef1006e4fd5… (all of the seat's roots in one cut). By AI agents, Wed Nov 11 2026. No macro, syntax, notation, axiom, sorry.
-/
import Derived.Test.YtcgjeglkgdakcaaChecked
import GoSem.Claim
import GoSem.ClaimJoined
import GoSem.ClaimMapViews
import Derived.JoinedTies
import Derived.KernelRfl
namespace Go.Proofs.Ytcgjeglkgdakcaa
/- THE CELL 'sum', in the pinned program and in every row, IS THE sha256 OF THE DUMP (.gsa) THAT YtcgjeglkgdakcaaProg.lean LOADS. Nothing in Lean hashes anything: it is a label: what it is worth is what the hold of that sum in a sandbox is worth. -/
noncomputable def Try.pinned : Pinned := { name := "ytcgjeglkgdakcaa", sum := "e2c93ef1006e4fd5a8272c10560ab6269178466cf92877ee9b2ad7d34057dff6", checked := Try.checked }
namespace Rows
def none {H : Type} : Left H := { results := [], args := [] }

/-- 'laws.FnExactRomanText': WHATEVER THE INPUT: true; the input reads as it did. -/
def fnExactRomanTextSpec : ChangeSpec := { name := "fnExactRomanText", fn := fun _ => fun
  | [d] => { results := [.lit (.bool true)], args := [d] }
  | _ => none }
def fnExactRomanTextRow : OpenClaim := { program := "ytcgjeglkgdakcaa", sum := "e2c93ef1006e4fd5a8272c10560ab6269178466cf92877ee9b2ad7d34057dff6", func := "loop.example/g00944/laws.FnExactRomanText", spec := "fnExactRomanText", inPlace := ["internal/abi.NoEscape"], recurses := true, apart := false }
def FnExactRomanTextSaid : Prop := fnExactRomanTextRow.holds Try.pinned (OpenSpec.ofChange fnExactRomanTextSpec)

/-- ITS FALSE NEIGHBOUR: 'it returns false'. Refute it at one input. -/
def fnExactRomanTextWrong : ChangeSpec := { name := "fnExactRomanText", fn := fun _ => fun
  | [d] => { results := [.lit (.bool false)], args := [d] }
  | _ => none }
def FnExactRomanTextWrongFalsely : Prop := fnExactRomanTextRow.holds Try.pinned (OpenSpec.ofChange fnExactRomanTextWrong)

/-- 'laws.FnExactReadRoman': WHATEVER THE INPUT: true; the input reads as it did. -/
def fnExactReadRomanSpec : ChangeSpec := { name := "fnExactReadRoman", fn := fun _ => fun
  | [d] => { results := [.lit (.bool true)], args := [d] }
  | _ => none }
def fnExactReadRomanRow : OpenClaim := { program := "ytcgjeglkgdakcaa", sum := "e2c93ef1006e4fd5a8272c10560ab6269178466cf92877ee9b2ad7d34057dff6", func := "loop.example/g00944/laws.FnExactReadRoman", spec := "fnExactReadRoman", inPlace := ["internal/abi.NoEscape"], recurses := true, apart := false }
def FnExactReadRomanSaid : Prop := fnExactReadRomanRow.holds Try.pinned (OpenSpec.ofChange fnExactReadRomanSpec)

/-- ITS FALSE NEIGHBOUR: 'it returns false'. Refute it at one input. -/
def fnExactReadRomanWrong : ChangeSpec := { name := "fnExactReadRoman", fn := fun _ => fun
  | [d] => { results := [.lit (.bool false)], args := [d] }
  | _ => none }
def FnExactReadRomanWrongFalsely : Prop := fnExactReadRomanRow.holds Try.pinned (OpenSpec.ofChange fnExactReadRomanWrong)

/-- 'laws.FnRomans': WHATEVER THE INPUT: true; the input reads as it did. -/
def fnRomansSpec : ChangeSpec := { name := "fnRomans", fn := fun _ => fun
  | [d] => { results := [.lit (.bool true)], args := [d] }
  | _ => none }
def fnRomansRow : OpenClaim := { program := "ytcgjeglkgdakcaa", sum := "e2c93ef1006e4fd5a8272c10560ab6269178466cf92877ee9b2ad7d34057dff6", func := "loop.example/g00944/laws.FnRomans", spec := "fnRomans", inPlace := ["internal/abi.NoEscape"], recurses := true, apart := false }
def FnRomansSaid : Prop := fnRomansRow.holds Try.pinned (OpenSpec.ofChange fnRomansSpec)

/-- ITS FALSE NEIGHBOUR: 'it returns false'. Refute it at one input. -/
def fnRomansWrong : ChangeSpec := { name := "fnRomans", fn := fun _ => fun
  | [d] => { results := [.lit (.bool false)], args := [d] }
  | _ => none }
def FnRomansWrongFalsely : Prop := fnRomansRow.holds Try.pinned (OpenSpec.ofChange fnRomansWrong)

/-- 'laws.FnExactIsBook': WHATEVER THE INPUT: true; the input reads as it did. -/
def fnExactIsBookSpec : ChangeSpec := { name := "fnExactIsBook", fn := fun _ => fun
  | [d] => { results := [.lit (.bool true)], args := [d] }
  | _ => none }
def fnExactIsBookRow : OpenClaim := { program := "ytcgjeglkgdakcaa", sum := "e2c93ef1006e4fd5a8272c10560ab6269178466cf92877ee9b2ad7d34057dff6", func := "loop.example/g00944/laws.FnExactIsBook", spec := "fnExactIsBook", unfollowed := true, recurses := true, apart := false }
def FnExactIsBookSaid : Prop := fnExactIsBookRow.holds Try.pinned (OpenSpec.ofChange fnExactIsBookSpec)

/-- ITS FALSE NEIGHBOUR: 'it returns false'. Refute it at one input. -/
def fnExactIsBookWrong : ChangeSpec := { name := "fnExactIsBook", fn := fun _ => fun
  | [d] => { results := [.lit (.bool false)], args := [d] }
  | _ => none }
def FnExactIsBookWrongFalsely : Prop := fnExactIsBookRow.holds Try.pinned (OpenSpec.ofChange fnExactIsBookWrong)

/-- 'laws.FnExactPageCount': WHATEVER THE INPUT: true; the input reads as it did. -/
def fnExactPageCountSpec : ChangeSpec := { name := "fnExactPageCount", fn := fun _ => fun
  | [d] => { results := [.lit (.bool true)], args := [d] }
  | _ => none }
def fnExactPageCountRow : OpenClaim := { program := "ytcgjeglkgdakcaa", sum := "e2c93ef1006e4fd5a8272c10560ab6269178466cf92877ee9b2ad7d34057dff6", func := "loop.example/g00944/laws.FnExactPageCount", spec := "fnExactPageCount", unfollowed := true, recurses := true, apart := false }
def FnExactPageCountSaid : Prop := fnExactPageCountRow.holds Try.pinned (OpenSpec.ofChange fnExactPageCountSpec)

/-- ITS FALSE NEIGHBOUR: 'it returns false'. Refute it at one input. -/
def fnExactPageCountWrong : ChangeSpec := { name := "fnExactPageCount", fn := fun _ => fun
  | [d] => { results := [.lit (.bool false)], args := [d] }
  | _ => none }
def FnExactPageCountWrongFalsely : Prop := fnExactPageCountRow.holds Try.pinned (OpenSpec.ofChange fnExactPageCountWrong)

/-- 'laws.FnExactChapterStarts': WHATEVER THE INPUT: true; the input reads as it did. -/
def fnExactChapterStartsSpec : ChangeSpec := { name := "fnExactChapterStarts", fn := fun _ => fun
  | [d] => { results := [.lit (.bool true)], args := [d] }
  | _ => none }
def fnExactChapterStartsRow : OpenClaim := { program := "ytcgjeglkgdakcaa", sum := "e2c93ef1006e4fd5a8272c10560ab6269178466cf92877ee9b2ad7d34057dff6", func := "loop.example/g00944/laws.FnExactChapterStarts", spec := "fnExactChapterStarts", unfollowed := true, recurses := true, apart := false }
def FnExactChapterStartsSaid : Prop := fnExactChapterStartsRow.holds Try.pinned (OpenSpec.ofChange fnExactChapterStartsSpec)

/-- ITS FALSE NEIGHBOUR: 'it returns false'. Refute it at one input. -/
def fnExactChapterStartsWrong : ChangeSpec := { name := "fnExactChapterStarts", fn := fun _ => fun
  | [d] => { results := [.lit (.bool false)], args := [d] }
  | _ => none }
def FnExactChapterStartsWrongFalsely : Prop := fnExactChapterStartsRow.holds Try.pinned (OpenSpec.ofChange fnExactChapterStartsWrong)

/-- 'laws.FnExactBlankPages': WHATEVER THE INPUT: true; the input reads as it did. -/
def fnExactBlankPagesSpec : ChangeSpec := { name := "fnExactBlankPages", fn := fun _ => fun
  | [d] => { results := [.lit (.bool true)], args := [d] }
  | _ => none }
def fnExactBlankPagesRow : OpenClaim := { program := "ytcgjeglkgdakcaa", sum := "e2c93ef1006e4fd5a8272c10560ab6269178466cf92877ee9b2ad7d34057dff6", func := "loop.example/g00944/laws.FnExactBlankPages", spec := "fnExactBlankPages", unfollowed := true, recurses := true, apart := false }
def FnExactBlankPagesSaid : Prop := fnExactBlankPagesRow.holds Try.pinned (OpenSpec.ofChange fnExactBlankPagesSpec)

/-- ITS FALSE NEIGHBOUR: 'it returns false'. Refute it at one input. -/
def fnExactBlankPagesWrong : ChangeSpec := { name := "fnExactBlankPages", fn := fun _ => fun
  | [d] => { results := [.lit (.bool false)], args := [d] }
  | _ => none }
def FnExactBlankPagesWrongFalsely : Prop := fnExactBlankPagesRow.holds Try.pinned (OpenSpec.ofChange fnExactBlankPagesWrong)

/-- 'laws.FnExactChapterOf': WHATEVER THE INPUT: true; the input reads as it did. -/
def fnExactChapterOfSpec : ChangeSpec := { name := "fnExactChapterOf", fn := fun _ => fun
  | [d1, d2] => { results := [.lit (.bool true)], args := [d1, d2] }
  | _ => none }
def fnExactChapterOfRow : OpenClaim := { program := "ytcgjeglkgdakcaa", sum := "e2c93ef1006e4fd5a8272c10560ab6269178466cf92877ee9b2ad7d34057dff6", func := "loop.example/g00944/laws.FnExactChapterOf", spec := "fnExactChapterOf", unfollowed := true, recurses := true, apart := false }
def FnExactChapterOfSaid : Prop := fnExactChapterOfRow.holds Try.pinned (OpenSpec.ofChange fnExactChapterOfSpec)

/-- ITS FALSE NEIGHBOUR: 'it returns false'. Refute it at one input. -/
def fnExactChapterOfWrong : ChangeSpec := { name := "fnExactChapterOf", fn := fun _ => fun
  | [d1, d2] => { results := [.lit (.bool false)], args := [d1, d2] }
  | _ => none }
def FnExactChapterOfWrongFalsely : Prop := fnExactChapterOfRow.holds Try.pinned (OpenSpec.ofChange fnExactChapterOfWrong)

/-- 'laws.FnChapters': WHATEVER THE INPUT: true; the input reads as it did. -/
def fnChaptersSpec : ChangeSpec := { name := "fnChapters", fn := fun _ => fun
  | [d] => { results := [.lit (.bool true)], args := [d] }
  | _ => none }
def fnChaptersRow : OpenClaim := { program := "ytcgjeglkgdakcaa", sum := "e2c93ef1006e4fd5a8272c10560ab6269178466cf92877ee9b2ad7d34057dff6", func := "loop.example/g00944/laws.FnChapters", spec := "fnChapters", unfollowed := true, recurses := true, apart := false }
def FnChaptersSaid : Prop := fnChaptersRow.holds Try.pinned (OpenSpec.ofChange fnChaptersSpec)

/-- ITS FALSE NEIGHBOUR: 'it returns false'. Refute it at one input. -/
def fnChaptersWrong : ChangeSpec := { name := "fnChapters", fn := fun _ => fun
  | [d] => { results := [.lit (.bool false)], args := [d] }
  | _ => none }
def FnChaptersWrongFalsely : Prop := fnChaptersRow.holds Try.pinned (OpenSpec.ofChange fnChaptersWrong)

/- THE SECOND FORM. 'bulk': how many values and letters a reading holds, each counted each time it is reached (what is shared counts as often as it is met; a slice's spare places count too). A statement '..UptoSaid' is the law's where the arguments, and the package variables that the reading takes, are together of bulk at most 1048576: NARROWER than '..Said'. Prove '..Said' where nothing that the law and all that it calls make is longer than what came in: it says more and counts as full. Else prove '..UptoSaid'. A law counts once. -/
mutual
def uptoBulk {H : Type} : DataW H → Nat
  | .lit (.string bytes) => bytes.length + 1
  | .lit _ => 1
  | .nil => 1
  | .ptr d => uptoBulk d + 1
  | .slice elems spare => uptoBulkAll elems + uptoBulkAll spare + 1
  | .agg parts => uptoBulkAll parts + 1
  | .iface _ d => uptoBulk d + 1
  | .map entries => uptoBulkEntries entries + 1
  | .held _ => 1
def uptoBulkAll {H : Type} : List (DataW H) → Nat
  | [] => 0
  | d :: r => uptoBulk d + uptoBulkAll r
def uptoBulkEntries {H : Type} : List (Lit × DataW H) → Nat
  | [] => 0
  | x :: r => uptoBulkEntry x + uptoBulkEntries r
def uptoBulkEntry {H : Type} : Lit × DataW H → Nat
  | (.string bytes, d) => bytes.length + uptoBulk d + 1
  | (_, d) => uptoBulk d + 1
 end
def uptoSmall : (H : Type) → List (DataW H) → Bool := fun _ ds => decide (uptoBulkAll ds ≤ 1048576)
def OpenSpec.upto (s : _root_.Go.ChangeSpec) : _root_.Go.OpenSpec := { _root_.Go.OpenSpec.ofChange s with cond := some uptoSmall }

/-- 'laws.FnExactRomanText', WHERE WHAT IT READS IS OF BULK AT MOST 1048576: true; the input reads as it did. -/
def fnExactRomanTextUptoRow : OpenClaim := { program := "ytcgjeglkgdakcaa", sum := "e2c93ef1006e4fd5a8272c10560ab6269178466cf92877ee9b2ad7d34057dff6", func := "loop.example/g00944/laws.FnExactRomanText", spec := "fnExactRomanText", inPlace := ["internal/abi.NoEscape"], recurses := true, apart := false, narrowed := true }
def FnExactRomanTextUptoSaid : Prop := fnExactRomanTextUptoRow.holds Try.pinned (OpenSpec.upto fnExactRomanTextSpec)

/-- 'laws.FnExactReadRoman', WHERE WHAT IT READS IS OF BULK AT MOST 1048576: true; the input reads as it did. -/
def fnExactReadRomanUptoRow : OpenClaim := { program := "ytcgjeglkgdakcaa", sum := "e2c93ef1006e4fd5a8272c10560ab6269178466cf92877ee9b2ad7d34057dff6", func := "loop.example/g00944/laws.FnExactReadRoman", spec := "fnExactReadRoman", inPlace := ["internal/abi.NoEscape"], recurses := true, apart := false, narrowed := true }
def FnExactReadRomanUptoSaid : Prop := fnExactReadRomanUptoRow.holds Try.pinned (OpenSpec.upto fnExactReadRomanSpec)

/-- 'laws.FnRomans', WHERE WHAT IT READS IS OF BULK AT MOST 1048576: true; the input reads as it did. -/
def fnRomansUptoRow : OpenClaim := { program := "ytcgjeglkgdakcaa", sum := "e2c93ef1006e4fd5a8272c10560ab6269178466cf92877ee9b2ad7d34057dff6", func := "loop.example/g00944/laws.FnRomans", spec := "fnRomans", inPlace := ["internal/abi.NoEscape"], recurses := true, apart := false, narrowed := true }
def FnRomansUptoSaid : Prop := fnRomansUptoRow.holds Try.pinned (OpenSpec.upto fnRomansSpec)

/-- 'laws.FnExactIsBook', WHERE WHAT IT READS IS OF BULK AT MOST 1048576: true; the input reads as it did. -/
def fnExactIsBookUptoRow : OpenClaim := { program := "ytcgjeglkgdakcaa", sum := "e2c93ef1006e4fd5a8272c10560ab6269178466cf92877ee9b2ad7d34057dff6", func := "loop.example/g00944/laws.FnExactIsBook", spec := "fnExactIsBook", unfollowed := true, recurses := true, apart := false, narrowed := true }
def FnExactIsBookUptoSaid : Prop := fnExactIsBookUptoRow.holds Try.pinned (OpenSpec.upto fnExactIsBookSpec)

/-- 'laws.FnExactPageCount', WHERE WHAT IT READS IS OF BULK AT MOST 1048576: true; the input reads as it did. -/
def fnExactPageCountUptoRow : OpenClaim := { program := "ytcgjeglkgdakcaa", sum := "e2c93ef1006e4fd5a8272c10560ab6269178466cf92877ee9b2ad7d34057dff6", func := "loop.example/g00944/laws.FnExactPageCount", spec := "fnExactPageCount", unfollowed := true, recurses := true, apart := false, narrowed := true }
def FnExactPageCountUptoSaid : Prop := fnExactPageCountUptoRow.holds Try.pinned (OpenSpec.upto fnExactPageCountSpec)

/-- 'laws.FnExactChapterStarts', WHERE WHAT IT READS IS OF BULK AT MOST 1048576: true; the input reads as it did. -/
def fnExactChapterStartsUptoRow : OpenClaim := { program := "ytcgjeglkgdakcaa", sum := "e2c93ef1006e4fd5a8272c10560ab6269178466cf92877ee9b2ad7d34057dff6", func := "loop.example/g00944/laws.FnExactChapterStarts", spec := "fnExactChapterStarts", unfollowed := true, recurses := true, apart := false, narrowed := true }
def FnExactChapterStartsUptoSaid : Prop := fnExactChapterStartsUptoRow.holds Try.pinned (OpenSpec.upto fnExactChapterStartsSpec)

/-- 'laws.FnExactBlankPages', WHERE WHAT IT READS IS OF BULK AT MOST 1048576: true; the input reads as it did. -/
def fnExactBlankPagesUptoRow : OpenClaim := { program := "ytcgjeglkgdakcaa", sum := "e2c93ef1006e4fd5a8272c10560ab6269178466cf92877ee9b2ad7d34057dff6", func := "loop.example/g00944/laws.FnExactBlankPages", spec := "fnExactBlankPages", unfollowed := true, recurses := true, apart := false, narrowed := true }
def FnExactBlankPagesUptoSaid : Prop := fnExactBlankPagesUptoRow.holds Try.pinned (OpenSpec.upto fnExactBlankPagesSpec)

/-- 'laws.FnExactChapterOf', WHERE WHAT IT READS IS OF BULK AT MOST 1048576: true; the input reads as it did. -/
def fnExactChapterOfUptoRow : OpenClaim := { program := "ytcgjeglkgdakcaa", sum := "e2c93ef1006e4fd5a8272c10560ab6269178466cf92877ee9b2ad7d34057dff6", func := "loop.example/g00944/laws.FnExactChapterOf", spec := "fnExactChapterOf", unfollowed := true, recurses := true, apart := false, narrowed := true }
def FnExactChapterOfUptoSaid : Prop := fnExactChapterOfUptoRow.holds Try.pinned (OpenSpec.upto fnExactChapterOfSpec)

/-- 'laws.FnChapters', WHERE WHAT IT READS IS OF BULK AT MOST 1048576: true; the input reads as it did. -/
def fnChaptersUptoRow : OpenClaim := { program := "ytcgjeglkgdakcaa", sum := "e2c93ef1006e4fd5a8272c10560ab6269178466cf92877ee9b2ad7d34057dff6", func := "loop.example/g00944/laws.FnChapters", spec := "fnChapters", unfollowed := true, recurses := true, apart := false, narrowed := true }
def FnChaptersUptoSaid : Prop := fnChaptersUptoRow.holds Try.pinned (OpenSpec.upto fnChaptersSpec)

end Rows
end Go.Proofs.Ytcgjeglkgdakcaa

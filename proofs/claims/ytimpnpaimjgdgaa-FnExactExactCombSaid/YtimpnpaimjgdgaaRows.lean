/-
  No cell of these rows narrows 'for every input' (looked for: loops, veiled, ifaces, maps, wideKeys, modest, calm, conditions, laid).
  DERIVED. THE GIVEN ROWS OF THIS SEAT. 12 by the template 'for every input the law returns true; each argument reads behind the call as it read before'; 0 by the template 'total and deterministic' (their statements: YtimpnpaimjgdgaaTotals.lean).
  GIVEN WITH THE SEED: the statements are not yours to turn. If you find one false, say at which input.
  Laid BY PROGRAM, IN A SANDBOX (cutbox-rows.mjs): the forced cells as the released guide's own fill.sh prints them over the translation 1148f75dd3711f0e… (all of the seat's roots in one cut). By AI agents, Wed Nov 11 2026. No macro, syntax, notation, axiom, sorry.
-/
import Derived.Test.YtimpnpaimjgdgaaChecked
import GoSem.Claim
import GoSem.ClaimJoined
import GoSem.ClaimMapViews
import Derived.JoinedTies
import Derived.KernelRfl
namespace Go.Proofs.Ytimpnpaimjgdgaa
/- THE CELL 'sum', in the pinned program and in every row, IS THE sha256 OF THE DUMP (.gsa) THAT YtimpnpaimjgdgaaProg.lean LOADS. Nothing in Lean hashes anything: it is a label: what it is worth is what the hold of that sum in a sandbox is worth. -/
noncomputable def Try.pinned : Pinned := { name := "ytimpnpaimjgdgaa", sum := "1148f75dd3711f0ebe64d9aeb89c1727c2be7d77955d4aeb268d3fb91cb102b9", checked := Try.checked }
namespace Rows
def none {H : Type} : Left H := { results := [], args := [] }

/-- 'laws.FnExactShapeErrors': WHATEVER THE INPUT: true; the input reads as it did. -/
def fnExactShapeErrorsSpec : ChangeSpec := { name := "fnExactShapeErrors", fn := fun _ => fun
  | [d1, d2, d3, d4] => { results := [.lit (.bool true)], args := [d1, d2, d3, d4] }
  | _ => none }
def fnExactShapeErrorsRow : OpenClaim := { program := "ytimpnpaimjgdgaa", sum := "1148f75dd3711f0ebe64d9aeb89c1727c2be7d77955d4aeb268d3fb91cb102b9", func := "loop.example/g01198/laws.FnExactShapeErrors", spec := "fnExactShapeErrors", unfollowed := true, recurses := true, apart := false }
def FnExactShapeErrorsSaid : Prop := fnExactShapeErrorsRow.holds Try.pinned (OpenSpec.ofChange fnExactShapeErrorsSpec)

/-- ITS FALSE NEIGHBOUR: 'it returns false'. Refute it at one input. -/
def fnExactShapeErrorsWrong : ChangeSpec := { name := "fnExactShapeErrors", fn := fun _ => fun
  | [d1, d2, d3, d4] => { results := [.lit (.bool false)], args := [d1, d2, d3, d4] }
  | _ => none }
def FnExactShapeErrorsWrongFalsely : Prop := fnExactShapeErrorsRow.holds Try.pinned (OpenSpec.ofChange fnExactShapeErrorsWrong)

/-- 'laws.FnExactShapeSignal': WHATEVER THE INPUT: true; the input reads as it did. -/
def fnExactShapeSignalSpec : ChangeSpec := { name := "fnExactShapeSignal", fn := fun _ => fun
  | [d1, d2, d3, d4] => { results := [.lit (.bool true)], args := [d1, d2, d3, d4] }
  | _ => none }
def fnExactShapeSignalRow : OpenClaim := { program := "ytimpnpaimjgdgaa", sum := "1148f75dd3711f0ebe64d9aeb89c1727c2be7d77955d4aeb268d3fb91cb102b9", func := "loop.example/g01198/laws.FnExactShapeSignal", spec := "fnExactShapeSignal", unfollowed := true, recurses := true, apart := false }
def FnExactShapeSignalSaid : Prop := fnExactShapeSignalRow.holds Try.pinned (OpenSpec.ofChange fnExactShapeSignalSpec)

/-- ITS FALSE NEIGHBOUR: 'it returns false'. Refute it at one input. -/
def fnExactShapeSignalWrong : ChangeSpec := { name := "fnExactShapeSignal", fn := fun _ => fun
  | [d1, d2, d3, d4] => { results := [.lit (.bool false)], args := [d1, d2, d3, d4] }
  | _ => none }
def FnExactShapeSignalWrongFalsely : Prop := fnExactShapeSignalRow.holds Try.pinned (OpenSpec.ofChange fnExactShapeSignalWrong)

/-- 'laws.FnExactShapedSums': WHATEVER THE INPUT: true; the input reads as it did. -/
def fnExactShapedSumsSpec : ChangeSpec := { name := "fnExactShapedSums", fn := fun _ => fun
  | [d1, d2, d3, d4] => { results := [.lit (.bool true)], args := [d1, d2, d3, d4] }
  | _ => none }
def fnExactShapedSumsRow : OpenClaim := { program := "ytimpnpaimjgdgaa", sum := "1148f75dd3711f0ebe64d9aeb89c1727c2be7d77955d4aeb268d3fb91cb102b9", func := "loop.example/g01198/laws.FnExactShapedSums", spec := "fnExactShapedSums", unfollowed := true, recurses := true, apart := false }
def FnExactShapedSumsSaid : Prop := fnExactShapedSumsRow.holds Try.pinned (OpenSpec.ofChange fnExactShapedSumsSpec)

/-- ITS FALSE NEIGHBOUR: 'it returns false'. Refute it at one input. -/
def fnExactShapedSumsWrong : ChangeSpec := { name := "fnExactShapedSums", fn := fun _ => fun
  | [d1, d2, d3, d4] => { results := [.lit (.bool false)], args := [d1, d2, d3, d4] }
  | _ => none }
def FnExactShapedSumsWrongFalsely : Prop := fnExactShapedSumsRow.holds Try.pinned (OpenSpec.ofChange fnExactShapedSumsWrong)

/-- 'laws.FnExactGreatestShapeGap': WHATEVER THE INPUT: true; the input reads as it did. -/
def fnExactGreatestShapeGapSpec : ChangeSpec := { name := "fnExactGreatestShapeGap", fn := fun _ => fun
  | [d1, d2, d3, d4] => { results := [.lit (.bool true)], args := [d1, d2, d3, d4] }
  | _ => none }
def fnExactGreatestShapeGapRow : OpenClaim := { program := "ytimpnpaimjgdgaa", sum := "1148f75dd3711f0ebe64d9aeb89c1727c2be7d77955d4aeb268d3fb91cb102b9", func := "loop.example/g01198/laws.FnExactGreatestShapeGap", spec := "fnExactGreatestShapeGap", unfollowed := true, recurses := true, apart := false }
def FnExactGreatestShapeGapSaid : Prop := fnExactGreatestShapeGapRow.holds Try.pinned (OpenSpec.ofChange fnExactGreatestShapeGapSpec)

/-- ITS FALSE NEIGHBOUR: 'it returns false'. Refute it at one input. -/
def fnExactGreatestShapeGapWrong : ChangeSpec := { name := "fnExactGreatestShapeGap", fn := fun _ => fun
  | [d1, d2, d3, d4] => { results := [.lit (.bool false)], args := [d1, d2, d3, d4] }
  | _ => none }
def FnExactGreatestShapeGapWrongFalsely : Prop := fnExactGreatestShapeGapRow.holds Try.pinned (OpenSpec.ofChange fnExactGreatestShapeGapWrong)

/-- 'laws.FnExactMeanBlocks': WHATEVER THE INPUT: true; the input reads as it did. -/
def fnExactMeanBlocksSpec : ChangeSpec := { name := "fnExactMeanBlocks", fn := fun _ => fun
  | [d1, d2, d3] => { results := [.lit (.bool true)], args := [d1, d2, d3] }
  | _ => none }
def fnExactMeanBlocksRow : OpenClaim := { program := "ytimpnpaimjgdgaa", sum := "1148f75dd3711f0ebe64d9aeb89c1727c2be7d77955d4aeb268d3fb91cb102b9", func := "loop.example/g01198/laws.FnExactMeanBlocks", spec := "fnExactMeanBlocks", unfollowed := true, recurses := true, apart := false }
def FnExactMeanBlocksSaid : Prop := fnExactMeanBlocksRow.holds Try.pinned (OpenSpec.ofChange fnExactMeanBlocksSpec)

/-- ITS FALSE NEIGHBOUR: 'it returns false'. Refute it at one input. -/
def fnExactMeanBlocksWrong : ChangeSpec := { name := "fnExactMeanBlocks", fn := fun _ => fun
  | [d1, d2, d3] => { results := [.lit (.bool false)], args := [d1, d2, d3] }
  | _ => none }
def FnExactMeanBlocksWrongFalsely : Prop := fnExactMeanBlocksRow.holds Try.pinned (OpenSpec.ofChange fnExactMeanBlocksWrong)

/-- 'laws.FnExactCountWraps': WHATEVER THE INPUT: true; the input reads as it did. -/
def fnExactCountWrapsSpec : ChangeSpec := { name := "fnExactCountWraps", fn := fun _ => fun
  | [d1, d2, d3] => { results := [.lit (.bool true)], args := [d1, d2, d3] }
  | _ => none }
def fnExactCountWrapsRow : OpenClaim := { program := "ytimpnpaimjgdgaa", sum := "1148f75dd3711f0ebe64d9aeb89c1727c2be7d77955d4aeb268d3fb91cb102b9", func := "loop.example/g01198/laws.FnExactCountWraps", spec := "fnExactCountWraps", unfollowed := true, recurses := true, apart := false }
def FnExactCountWrapsSaid : Prop := fnExactCountWrapsRow.holds Try.pinned (OpenSpec.ofChange fnExactCountWrapsSpec)

/-- ITS FALSE NEIGHBOUR: 'it returns false'. Refute it at one input. -/
def fnExactCountWrapsWrong : ChangeSpec := { name := "fnExactCountWraps", fn := fun _ => fun
  | [d1, d2, d3] => { results := [.lit (.bool false)], args := [d1, d2, d3] }
  | _ => none }
def FnExactCountWrapsWrongFalsely : Prop := fnExactCountWrapsRow.holds Try.pinned (OpenSpec.ofChange fnExactCountWrapsWrong)

/-- 'laws.FnExactWrappedSums': WHATEVER THE INPUT: true; the input reads as it did. -/
def fnExactWrappedSumsSpec : ChangeSpec := { name := "fnExactWrappedSums", fn := fun _ => fun
  | [d1, d2, d3] => { results := [.lit (.bool true)], args := [d1, d2, d3] }
  | _ => none }
def fnExactWrappedSumsRow : OpenClaim := { program := "ytimpnpaimjgdgaa", sum := "1148f75dd3711f0ebe64d9aeb89c1727c2be7d77955d4aeb268d3fb91cb102b9", func := "loop.example/g01198/laws.FnExactWrappedSums", spec := "fnExactWrappedSums", unfollowed := true, recurses := true, apart := false }
def FnExactWrappedSumsSaid : Prop := fnExactWrappedSumsRow.holds Try.pinned (OpenSpec.ofChange fnExactWrappedSumsSpec)

/-- ITS FALSE NEIGHBOUR: 'it returns false'. Refute it at one input. -/
def fnExactWrappedSumsWrong : ChangeSpec := { name := "fnExactWrappedSums", fn := fun _ => fun
  | [d1, d2, d3] => { results := [.lit (.bool false)], args := [d1, d2, d3] }
  | _ => none }
def FnExactWrappedSumsWrongFalsely : Prop := fnExactWrappedSumsRow.holds Try.pinned (OpenSpec.ofChange fnExactWrappedSumsWrong)

/-- 'laws.FnExactWrappedCombs': WHATEVER THE INPUT: true; the input reads as it did. -/
def fnExactWrappedCombsSpec : ChangeSpec := { name := "fnExactWrappedCombs", fn := fun _ => fun
  | [d1, d2, d3] => { results := [.lit (.bool true)], args := [d1, d2, d3] }
  | _ => none }
def fnExactWrappedCombsRow : OpenClaim := { program := "ytimpnpaimjgdgaa", sum := "1148f75dd3711f0ebe64d9aeb89c1727c2be7d77955d4aeb268d3fb91cb102b9", func := "loop.example/g01198/laws.FnExactWrappedCombs", spec := "fnExactWrappedCombs", unfollowed := true, recurses := true, apart := false }
def FnExactWrappedCombsSaid : Prop := fnExactWrappedCombsRow.holds Try.pinned (OpenSpec.ofChange fnExactWrappedCombsSpec)

/-- ITS FALSE NEIGHBOUR: 'it returns false'. Refute it at one input. -/
def fnExactWrappedCombsWrong : ChangeSpec := { name := "fnExactWrappedCombs", fn := fun _ => fun
  | [d1, d2, d3] => { results := [.lit (.bool false)], args := [d1, d2, d3] }
  | _ => none }
def FnExactWrappedCombsWrongFalsely : Prop := fnExactWrappedCombsRow.holds Try.pinned (OpenSpec.ofChange fnExactWrappedCombsWrong)

/-- 'laws.FnExactWrappedComb': WHATEVER THE INPUT: true; the input reads as it did. -/
def fnExactWrappedCombSpec : ChangeSpec := { name := "fnExactWrappedComb", fn := fun _ => fun
  | [d1, d2, d3, d4] => { results := [.lit (.bool true)], args := [d1, d2, d3, d4] }
  | _ => none }
def fnExactWrappedCombRow : OpenClaim := { program := "ytimpnpaimjgdgaa", sum := "1148f75dd3711f0ebe64d9aeb89c1727c2be7d77955d4aeb268d3fb91cb102b9", func := "loop.example/g01198/laws.FnExactWrappedComb", spec := "fnExactWrappedComb", unfollowed := true, recurses := true, apart := false }
def FnExactWrappedCombSaid : Prop := fnExactWrappedCombRow.holds Try.pinned (OpenSpec.ofChange fnExactWrappedCombSpec)

/-- ITS FALSE NEIGHBOUR: 'it returns false'. Refute it at one input. -/
def fnExactWrappedCombWrong : ChangeSpec := { name := "fnExactWrappedComb", fn := fun _ => fun
  | [d1, d2, d3, d4] => { results := [.lit (.bool false)], args := [d1, d2, d3, d4] }
  | _ => none }
def FnExactWrappedCombWrongFalsely : Prop := fnExactWrappedCombRow.holds Try.pinned (OpenSpec.ofChange fnExactWrappedCombWrong)

/-- 'laws.FnExactWrappedRise': WHATEVER THE INPUT: true; the input reads as it did. -/
def fnExactWrappedRiseSpec : ChangeSpec := { name := "fnExactWrappedRise", fn := fun _ => fun
  | [d1, d2, d3, d4] => { results := [.lit (.bool true)], args := [d1, d2, d3, d4] }
  | _ => none }
def fnExactWrappedRiseRow : OpenClaim := { program := "ytimpnpaimjgdgaa", sum := "1148f75dd3711f0ebe64d9aeb89c1727c2be7d77955d4aeb268d3fb91cb102b9", func := "loop.example/g01198/laws.FnExactWrappedRise", spec := "fnExactWrappedRise", unfollowed := true, recurses := true, apart := false }
def FnExactWrappedRiseSaid : Prop := fnExactWrappedRiseRow.holds Try.pinned (OpenSpec.ofChange fnExactWrappedRiseSpec)

/-- ITS FALSE NEIGHBOUR: 'it returns false'. Refute it at one input. -/
def fnExactWrappedRiseWrong : ChangeSpec := { name := "fnExactWrappedRise", fn := fun _ => fun
  | [d1, d2, d3, d4] => { results := [.lit (.bool false)], args := [d1, d2, d3, d4] }
  | _ => none }
def FnExactWrappedRiseWrongFalsely : Prop := fnExactWrappedRiseRow.holds Try.pinned (OpenSpec.ofChange fnExactWrappedRiseWrong)

/-- 'laws.FnExactExactComb': WHATEVER THE INPUT: true; the input reads as it did. -/
def fnExactExactCombSpec : ChangeSpec := { name := "fnExactExactComb", fn := fun _ => fun
  | [d1, d2, d3] => { results := [.lit (.bool true)], args := [d1, d2, d3] }
  | _ => none }
def fnExactExactCombRow : OpenClaim := { program := "ytimpnpaimjgdgaa", sum := "1148f75dd3711f0ebe64d9aeb89c1727c2be7d77955d4aeb268d3fb91cb102b9", func := "loop.example/g01198/laws.FnExactExactComb", spec := "fnExactExactComb", unfollowed := true, recurses := true, apart := false }
def FnExactExactCombSaid : Prop := fnExactExactCombRow.holds Try.pinned (OpenSpec.ofChange fnExactExactCombSpec)

/-- ITS FALSE NEIGHBOUR: 'it returns false'. Refute it at one input. -/
def fnExactExactCombWrong : ChangeSpec := { name := "fnExactExactComb", fn := fun _ => fun
  | [d1, d2, d3] => { results := [.lit (.bool false)], args := [d1, d2, d3] }
  | _ => none }
def FnExactExactCombWrongFalsely : Prop := fnExactExactCombRow.holds Try.pinned (OpenSpec.ofChange fnExactExactCombWrong)

/-- 'laws.FnExactExactRise': WHATEVER THE INPUT: true; the input reads as it did. -/
def fnExactExactRiseSpec : ChangeSpec := { name := "fnExactExactRise", fn := fun _ => fun
  | [d1, d2, d3] => { results := [.lit (.bool true)], args := [d1, d2, d3] }
  | _ => none }
def fnExactExactRiseRow : OpenClaim := { program := "ytimpnpaimjgdgaa", sum := "1148f75dd3711f0ebe64d9aeb89c1727c2be7d77955d4aeb268d3fb91cb102b9", func := "loop.example/g01198/laws.FnExactExactRise", spec := "fnExactExactRise", unfollowed := true, recurses := true, apart := false }
def FnExactExactRiseSaid : Prop := fnExactExactRiseRow.holds Try.pinned (OpenSpec.ofChange fnExactExactRiseSpec)

/-- ITS FALSE NEIGHBOUR: 'it returns false'. Refute it at one input. -/
def fnExactExactRiseWrong : ChangeSpec := { name := "fnExactExactRise", fn := fun _ => fun
  | [d1, d2, d3] => { results := [.lit (.bool false)], args := [d1, d2, d3] }
  | _ => none }
def FnExactExactRiseWrongFalsely : Prop := fnExactExactRiseRow.holds Try.pinned (OpenSpec.ofChange fnExactExactRiseWrong)

/- THE SECOND FORM. 'bulk': how many values and letters a reading holds, each counted each time it is reached (what is shared counts as often as it is met; a slice's spare places count too). A statement '..UptoSaid' is the law's where the arguments, and the package variables that the reading takes, are together of bulk at most 1048576: NARROWER than '..Said'. Prove '..Said' where nothing that the law and all that it calls make is longer than what came in: it says more and counts as full. Else prove '..UptoSaid'. A law counts once. -/
mutual
def uptoBulk {H : Type} : DataW H → Nat
  | .lit (.string bytes) => bytes.length + 1
  | .lit _ => 1
  | .nil => 1
  | .ptr d => uptoBulk d + 1
  | .slice elems spare => uptoBulkAll elems + uptoBulkAll spare + 1
  | .agg parts => uptoBulkAll parts + 1
  | .iface _ d => uptoBulk d + 1
  | .map entries => uptoBulkEntries entries + 1
  | .held _ => 1
def uptoBulkAll {H : Type} : List (DataW H) → Nat
  | [] => 0
  | d :: r => uptoBulk d + uptoBulkAll r
def uptoBulkEntries {H : Type} : List (Lit × DataW H) → Nat
  | [] => 0
  | x :: r => uptoBulkEntry x + uptoBulkEntries r
def uptoBulkEntry {H : Type} : Lit × DataW H → Nat
  | (.string bytes, d) => bytes.length + uptoBulk d + 1
  | (_, d) => uptoBulk d + 1
 end
def uptoSmall : (H : Type) → List (DataW H) → Bool := fun _ ds => decide (uptoBulkAll ds ≤ 1048576)
def OpenSpec.upto (s : _root_.Go.ChangeSpec) : _root_.Go.OpenSpec := { _root_.Go.OpenSpec.ofChange s with cond := some uptoSmall }

/-- 'laws.FnExactShapeErrors', WHERE WHAT IT READS IS OF BULK AT MOST 1048576: true; the input reads as it did. -/
def fnExactShapeErrorsUptoRow : OpenClaim := { program := "ytimpnpaimjgdgaa", sum := "1148f75dd3711f0ebe64d9aeb89c1727c2be7d77955d4aeb268d3fb91cb102b9", func := "loop.example/g01198/laws.FnExactShapeErrors", spec := "fnExactShapeErrors", unfollowed := true, recurses := true, apart := false, narrowed := true }
def FnExactShapeErrorsUptoSaid : Prop := fnExactShapeErrorsUptoRow.holds Try.pinned (OpenSpec.upto fnExactShapeErrorsSpec)

/-- 'laws.FnExactShapeSignal', WHERE WHAT IT READS IS OF BULK AT MOST 1048576: true; the input reads as it did. -/
def fnExactShapeSignalUptoRow : OpenClaim := { program := "ytimpnpaimjgdgaa", sum := "1148f75dd3711f0ebe64d9aeb89c1727c2be7d77955d4aeb268d3fb91cb102b9", func := "loop.example/g01198/laws.FnExactShapeSignal", spec := "fnExactShapeSignal", unfollowed := true, recurses := true, apart := false, narrowed := true }
def FnExactShapeSignalUptoSaid : Prop := fnExactShapeSignalUptoRow.holds Try.pinned (OpenSpec.upto fnExactShapeSignalSpec)

/-- 'laws.FnExactShapedSums', WHERE WHAT IT READS IS OF BULK AT MOST 1048576: true; the input reads as it did. -/
def fnExactShapedSumsUptoRow : OpenClaim := { program := "ytimpnpaimjgdgaa", sum := "1148f75dd3711f0ebe64d9aeb89c1727c2be7d77955d4aeb268d3fb91cb102b9", func := "loop.example/g01198/laws.FnExactShapedSums", spec := "fnExactShapedSums", unfollowed := true, recurses := true, apart := false, narrowed := true }
def FnExactShapedSumsUptoSaid : Prop := fnExactShapedSumsUptoRow.holds Try.pinned (OpenSpec.upto fnExactShapedSumsSpec)

/-- 'laws.FnExactGreatestShapeGap', WHERE WHAT IT READS IS OF BULK AT MOST 1048576: true; the input reads as it did. -/
def fnExactGreatestShapeGapUptoRow : OpenClaim := { program := "ytimpnpaimjgdgaa", sum := "1148f75dd3711f0ebe64d9aeb89c1727c2be7d77955d4aeb268d3fb91cb102b9", func := "loop.example/g01198/laws.FnExactGreatestShapeGap", spec := "fnExactGreatestShapeGap", unfollowed := true, recurses := true, apart := false, narrowed := true }
def FnExactGreatestShapeGapUptoSaid : Prop := fnExactGreatestShapeGapUptoRow.holds Try.pinned (OpenSpec.upto fnExactGreatestShapeGapSpec)

/-- 'laws.FnExactMeanBlocks', WHERE WHAT IT READS IS OF BULK AT MOST 1048576: true; the input reads as it did. -/
def fnExactMeanBlocksUptoRow : OpenClaim := { program := "ytimpnpaimjgdgaa", sum := "1148f75dd3711f0ebe64d9aeb89c1727c2be7d77955d4aeb268d3fb91cb102b9", func := "loop.example/g01198/laws.FnExactMeanBlocks", spec := "fnExactMeanBlocks", unfollowed := true, recurses := true, apart := false, narrowed := true }
def FnExactMeanBlocksUptoSaid : Prop := fnExactMeanBlocksUptoRow.holds Try.pinned (OpenSpec.upto fnExactMeanBlocksSpec)

/-- 'laws.FnExactCountWraps', WHERE WHAT IT READS IS OF BULK AT MOST 1048576: true; the input reads as it did. -/
def fnExactCountWrapsUptoRow : OpenClaim := { program := "ytimpnpaimjgdgaa", sum := "1148f75dd3711f0ebe64d9aeb89c1727c2be7d77955d4aeb268d3fb91cb102b9", func := "loop.example/g01198/laws.FnExactCountWraps", spec := "fnExactCountWraps", unfollowed := true, recurses := true, apart := false, narrowed := true }
def FnExactCountWrapsUptoSaid : Prop := fnExactCountWrapsUptoRow.holds Try.pinned (OpenSpec.upto fnExactCountWrapsSpec)

/-- 'laws.FnExactWrappedSums', WHERE WHAT IT READS IS OF BULK AT MOST 1048576: true; the input reads as it did. -/
def fnExactWrappedSumsUptoRow : OpenClaim := { program := "ytimpnpaimjgdgaa", sum := "1148f75dd3711f0ebe64d9aeb89c1727c2be7d77955d4aeb268d3fb91cb102b9", func := "loop.example/g01198/laws.FnExactWrappedSums", spec := "fnExactWrappedSums", unfollowed := true, recurses := true, apart := false, narrowed := true }
def FnExactWrappedSumsUptoSaid : Prop := fnExactWrappedSumsUptoRow.holds Try.pinned (OpenSpec.upto fnExactWrappedSumsSpec)

/-- 'laws.FnExactWrappedCombs', WHERE WHAT IT READS IS OF BULK AT MOST 1048576: true; the input reads as it did. -/
def fnExactWrappedCombsUptoRow : OpenClaim := { program := "ytimpnpaimjgdgaa", sum := "1148f75dd3711f0ebe64d9aeb89c1727c2be7d77955d4aeb268d3fb91cb102b9", func := "loop.example/g01198/laws.FnExactWrappedCombs", spec := "fnExactWrappedCombs", unfollowed := true, recurses := true, apart := false, narrowed := true }
def FnExactWrappedCombsUptoSaid : Prop := fnExactWrappedCombsUptoRow.holds Try.pinned (OpenSpec.upto fnExactWrappedCombsSpec)

/-- 'laws.FnExactWrappedComb', WHERE WHAT IT READS IS OF BULK AT MOST 1048576: true; the input reads as it did. -/
def fnExactWrappedCombUptoRow : OpenClaim := { program := "ytimpnpaimjgdgaa", sum := "1148f75dd3711f0ebe64d9aeb89c1727c2be7d77955d4aeb268d3fb91cb102b9", func := "loop.example/g01198/laws.FnExactWrappedComb", spec := "fnExactWrappedComb", unfollowed := true, recurses := true, apart := false, narrowed := true }
def FnExactWrappedCombUptoSaid : Prop := fnExactWrappedCombUptoRow.holds Try.pinned (OpenSpec.upto fnExactWrappedCombSpec)

/-- 'laws.FnExactWrappedRise', WHERE WHAT IT READS IS OF BULK AT MOST 1048576: true; the input reads as it did. -/
def fnExactWrappedRiseUptoRow : OpenClaim := { program := "ytimpnpaimjgdgaa", sum := "1148f75dd3711f0ebe64d9aeb89c1727c2be7d77955d4aeb268d3fb91cb102b9", func := "loop.example/g01198/laws.FnExactWrappedRise", spec := "fnExactWrappedRise", unfollowed := true, recurses := true, apart := false, narrowed := true }
def FnExactWrappedRiseUptoSaid : Prop := fnExactWrappedRiseUptoRow.holds Try.pinned (OpenSpec.upto fnExactWrappedRiseSpec)

/-- 'laws.FnExactExactComb', WHERE WHAT IT READS IS OF BULK AT MOST 1048576: true; the input reads as it did. -/
def fnExactExactCombUptoRow : OpenClaim := { program := "ytimpnpaimjgdgaa", sum := "1148f75dd3711f0ebe64d9aeb89c1727c2be7d77955d4aeb268d3fb91cb102b9", func := "loop.example/g01198/laws.FnExactExactComb", spec := "fnExactExactComb", unfollowed := true, recurses := true, apart := false, narrowed := true }
def FnExactExactCombUptoSaid : Prop := fnExactExactCombUptoRow.holds Try.pinned (OpenSpec.upto fnExactExactCombSpec)

/-- 'laws.FnExactExactRise', WHERE WHAT IT READS IS OF BULK AT MOST 1048576: true; the input reads as it did. -/
def fnExactExactRiseUptoRow : OpenClaim := { program := "ytimpnpaimjgdgaa", sum := "1148f75dd3711f0ebe64d9aeb89c1727c2be7d77955d4aeb268d3fb91cb102b9", func := "loop.example/g01198/laws.FnExactExactRise", spec := "fnExactExactRise", unfollowed := true, recurses := true, apart := false, narrowed := true }
def FnExactExactRiseUptoSaid : Prop := fnExactExactRiseUptoRow.holds Try.pinned (OpenSpec.upto fnExactExactRiseSpec)

end Rows
end Go.Proofs.Ytimpnpaimjgdgaa

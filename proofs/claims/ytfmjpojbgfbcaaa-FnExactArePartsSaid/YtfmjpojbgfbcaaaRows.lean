/-
  No cell of these rows narrows 'for every input' (looked for: loops, veiled, ifaces, maps, wideKeys, modest, calm, conditions, laid).
  DERIVED. THE GIVEN ROWS OF THIS SEAT. 8 by the template 'for every input the law returns true; each argument reads behind the call as it read before'; 0 by the template 'total and deterministic' (their statements: YtfmjpojbgfbcaaaTotals.lean).
  GIVEN WITH THE SEED: the statements are not yours to turn. If you find one false, say at which input.
  Laid BY PROGRAM, IN A SANDBOX (cutbox-rows.mjs): the forced cells as the released guide's own fill.sh prints them over the translation 7e4475d5ca939152… (all of the seat's roots in one cut). By AI agents, Wed Nov 11 2026. No macro, syntax, notation, axiom, sorry.
-/
import Derived.Test.YtfmjpojbgfbcaaaChecked
import GoSem.Claim
import GoSem.ClaimJoined
import GoSem.ClaimMapViews
import Derived.JoinedTies
import Derived.KernelRfl
namespace Go.Proofs.Ytfmjpojbgfbcaaa
/- THE CELL 'sum', in the pinned program and in every row, IS THE sha256 OF THE DUMP (.gsa) THAT YtfmjpojbgfbcaaaProg.lean LOADS. Nothing in Lean hashes anything: it is a label: what it is worth is what the hold of that sum in a sandbox is worth. -/
noncomputable def Try.pinned : Pinned := { name := "ytfmjpojbgfbcaaa", sum := "7e4475d5ca9391525eff294cceba038622d15b18ea8fc08e1ea7711543a92bc7", checked := Try.checked }
namespace Rows
def none {H : Type} : Left H := { results := [], args := [] }

/-- 'laws.FnExactShapeErrors': WHATEVER THE INPUT: true; the input reads as it did. -/
def fnExactShapeErrorsSpec : ChangeSpec := { name := "fnExactShapeErrors", fn := fun _ => fun
  | [d1, d2, d3, d4] => { results := [.lit (.bool true)], args := [d1, d2, d3, d4] }
  | _ => none }
def fnExactShapeErrorsRow : OpenClaim := { program := "ytfmjpojbgfbcaaa", sum := "7e4475d5ca9391525eff294cceba038622d15b18ea8fc08e1ea7711543a92bc7", func := "loop.example/g01198/laws.FnExactShapeErrors", spec := "fnExactShapeErrors", unfollowed := true, recurses := true, apart := false }
def FnExactShapeErrorsSaid : Prop := fnExactShapeErrorsRow.holds Try.pinned (OpenSpec.ofChange fnExactShapeErrorsSpec)

/-- ITS FALSE NEIGHBOUR: 'it returns false'. Refute it at one input. -/
def fnExactShapeErrorsWrong : ChangeSpec := { name := "fnExactShapeErrors", fn := fun _ => fun
  | [d1, d2, d3, d4] => { results := [.lit (.bool false)], args := [d1, d2, d3, d4] }
  | _ => none }
def FnExactShapeErrorsWrongFalsely : Prop := fnExactShapeErrorsRow.holds Try.pinned (OpenSpec.ofChange fnExactShapeErrorsWrong)

/-- 'laws.FnExactShapeSignal': WHATEVER THE INPUT: true; the input reads as it did. -/
def fnExactShapeSignalSpec : ChangeSpec := { name := "fnExactShapeSignal", fn := fun _ => fun
  | [d1, d2, d3, d4] => { results := [.lit (.bool true)], args := [d1, d2, d3, d4] }
  | _ => none }
def fnExactShapeSignalRow : OpenClaim := { program := "ytfmjpojbgfbcaaa", sum := "7e4475d5ca9391525eff294cceba038622d15b18ea8fc08e1ea7711543a92bc7", func := "loop.example/g01198/laws.FnExactShapeSignal", spec := "fnExactShapeSignal", unfollowed := true, recurses := true, apart := false }
def FnExactShapeSignalSaid : Prop := fnExactShapeSignalRow.holds Try.pinned (OpenSpec.ofChange fnExactShapeSignalSpec)

/-- ITS FALSE NEIGHBOUR: 'it returns false'. Refute it at one input. -/
def fnExactShapeSignalWrong : ChangeSpec := { name := "fnExactShapeSignal", fn := fun _ => fun
  | [d1, d2, d3, d4] => { results := [.lit (.bool false)], args := [d1, d2, d3, d4] }
  | _ => none }
def FnExactShapeSignalWrongFalsely : Prop := fnExactShapeSignalRow.holds Try.pinned (OpenSpec.ofChange fnExactShapeSignalWrong)

/-- 'laws.FnExactShapedSums': WHATEVER THE INPUT: true; the input reads as it did. -/
def fnExactShapedSumsSpec : ChangeSpec := { name := "fnExactShapedSums", fn := fun _ => fun
  | [d1, d2, d3, d4] => { results := [.lit (.bool true)], args := [d1, d2, d3, d4] }
  | _ => none }
def fnExactShapedSumsRow : OpenClaim := { program := "ytfmjpojbgfbcaaa", sum := "7e4475d5ca9391525eff294cceba038622d15b18ea8fc08e1ea7711543a92bc7", func := "loop.example/g01198/laws.FnExactShapedSums", spec := "fnExactShapedSums", unfollowed := true, recurses := true, apart := false }
def FnExactShapedSumsSaid : Prop := fnExactShapedSumsRow.holds Try.pinned (OpenSpec.ofChange fnExactShapedSumsSpec)

/-- ITS FALSE NEIGHBOUR: 'it returns false'. Refute it at one input. -/
def fnExactShapedSumsWrong : ChangeSpec := { name := "fnExactShapedSums", fn := fun _ => fun
  | [d1, d2, d3, d4] => { results := [.lit (.bool false)], args := [d1, d2, d3, d4] }
  | _ => none }
def FnExactShapedSumsWrongFalsely : Prop := fnExactShapedSumsRow.holds Try.pinned (OpenSpec.ofChange fnExactShapedSumsWrong)

/-- 'laws.FnExactGreatestShapeGap': WHATEVER THE INPUT: true; the input reads as it did. -/
def fnExactGreatestShapeGapSpec : ChangeSpec := { name := "fnExactGreatestShapeGap", fn := fun _ => fun
  | [d1, d2, d3, d4] => { results := [.lit (.bool true)], args := [d1, d2, d3, d4] }
  | _ => none }
def fnExactGreatestShapeGapRow : OpenClaim := { program := "ytfmjpojbgfbcaaa", sum := "7e4475d5ca9391525eff294cceba038622d15b18ea8fc08e1ea7711543a92bc7", func := "loop.example/g01198/laws.FnExactGreatestShapeGap", spec := "fnExactGreatestShapeGap", unfollowed := true, recurses := true, apart := false }
def FnExactGreatestShapeGapSaid : Prop := fnExactGreatestShapeGapRow.holds Try.pinned (OpenSpec.ofChange fnExactGreatestShapeGapSpec)

/-- ITS FALSE NEIGHBOUR: 'it returns false'. Refute it at one input. -/
def fnExactGreatestShapeGapWrong : ChangeSpec := { name := "fnExactGreatestShapeGap", fn := fun _ => fun
  | [d1, d2, d3, d4] => { results := [.lit (.bool false)], args := [d1, d2, d3, d4] }
  | _ => none }
def FnExactGreatestShapeGapWrongFalsely : Prop := fnExactGreatestShapeGapRow.holds Try.pinned (OpenSpec.ofChange fnExactGreatestShapeGapWrong)

/-- 'laws.FnExactAreParts': WHATEVER THE INPUT: true; the input reads as it did. -/
def fnExactArePartsSpec : ChangeSpec := { name := "fnExactAreParts", fn := fun _ => fun
  | [d] => { results := [.lit (.bool true)], args := [d] }
  | _ => none }
def fnExactArePartsRow : OpenClaim := { program := "ytfmjpojbgfbcaaa", sum := "7e4475d5ca9391525eff294cceba038622d15b18ea8fc08e1ea7711543a92bc7", func := "loop.example/g01198/laws.FnExactAreParts", spec := "fnExactAreParts", unfollowed := true, recurses := true, apart := false }
def FnExactArePartsSaid : Prop := fnExactArePartsRow.holds Try.pinned (OpenSpec.ofChange fnExactArePartsSpec)

/-- ITS FALSE NEIGHBOUR: 'it returns false'. Refute it at one input. -/
def fnExactArePartsWrong : ChangeSpec := { name := "fnExactAreParts", fn := fun _ => fun
  | [d] => { results := [.lit (.bool false)], args := [d] }
  | _ => none }
def FnExactArePartsWrongFalsely : Prop := fnExactArePartsRow.holds Try.pinned (OpenSpec.ofChange fnExactArePartsWrong)

/-- 'laws.FnExactShiftOfChain': WHATEVER THE INPUT: true; the input reads as it did. -/
def fnExactShiftOfChainSpec : ChangeSpec := { name := "fnExactShiftOfChain", fn := fun _ => fun
  | [d] => { results := [.lit (.bool true)], args := [d] }
  | _ => none }
def fnExactShiftOfChainRow : OpenClaim := { program := "ytfmjpojbgfbcaaa", sum := "7e4475d5ca9391525eff294cceba038622d15b18ea8fc08e1ea7711543a92bc7", func := "loop.example/g01198/laws.FnExactShiftOfChain", spec := "fnExactShiftOfChain", unfollowed := true, recurses := true, apart := false }
def FnExactShiftOfChainSaid : Prop := fnExactShiftOfChainRow.holds Try.pinned (OpenSpec.ofChange fnExactShiftOfChainSpec)

/-- ITS FALSE NEIGHBOUR: 'it returns false'. Refute it at one input. -/
def fnExactShiftOfChainWrong : ChangeSpec := { name := "fnExactShiftOfChain", fn := fun _ => fun
  | [d] => { results := [.lit (.bool false)], args := [d] }
  | _ => none }
def FnExactShiftOfChainWrongFalsely : Prop := fnExactShiftOfChainRow.holds Try.pinned (OpenSpec.ofChange fnExactShiftOfChainWrong)

/-- 'laws.FnExactWeightsOfChain': WHATEVER THE INPUT: true; the input reads as it did. -/
def fnExactWeightsOfChainSpec : ChangeSpec := { name := "fnExactWeightsOfChain", fn := fun _ => fun
  | [d1, d2] => { results := [.lit (.bool true)], args := [d1, d2] }
  | _ => none }
def fnExactWeightsOfChainRow : OpenClaim := { program := "ytfmjpojbgfbcaaa", sum := "7e4475d5ca9391525eff294cceba038622d15b18ea8fc08e1ea7711543a92bc7", func := "loop.example/g01198/laws.FnExactWeightsOfChain", spec := "fnExactWeightsOfChain", unfollowed := true, recurses := true, apart := false }
def FnExactWeightsOfChainSaid : Prop := fnExactWeightsOfChainRow.holds Try.pinned (OpenSpec.ofChange fnExactWeightsOfChainSpec)

/-- ITS FALSE NEIGHBOUR: 'it returns false'. Refute it at one input. -/
def fnExactWeightsOfChainWrong : ChangeSpec := { name := "fnExactWeightsOfChain", fn := fun _ => fun
  | [d1, d2] => { results := [.lit (.bool false)], args := [d1, d2] }
  | _ => none }
def FnExactWeightsOfChainWrongFalsely : Prop := fnExactWeightsOfChainRow.holds Try.pinned (OpenSpec.ofChange fnExactWeightsOfChainWrong)

/-- 'laws.FnExactExactChain': WHATEVER THE INPUT: true; the input reads as it did. -/
def fnExactExactChainSpec : ChangeSpec := { name := "fnExactExactChain", fn := fun _ => fun
  | [d1, d2] => { results := [.lit (.bool true)], args := [d1, d2] }
  | _ => none }
def fnExactExactChainRow : OpenClaim := { program := "ytfmjpojbgfbcaaa", sum := "7e4475d5ca9391525eff294cceba038622d15b18ea8fc08e1ea7711543a92bc7", func := "loop.example/g01198/laws.FnExactExactChain", spec := "fnExactExactChain", unfollowed := true, recurses := true, apart := false }
def FnExactExactChainSaid : Prop := fnExactExactChainRow.holds Try.pinned (OpenSpec.ofChange fnExactExactChainSpec)

/-- ITS FALSE NEIGHBOUR: 'it returns false'. Refute it at one input. -/
def fnExactExactChainWrong : ChangeSpec := { name := "fnExactExactChain", fn := fun _ => fun
  | [d1, d2] => { results := [.lit (.bool false)], args := [d1, d2] }
  | _ => none }
def FnExactExactChainWrongFalsely : Prop := fnExactExactChainRow.holds Try.pinned (OpenSpec.ofChange fnExactExactChainWrong)

/- THE SECOND FORM. 'bulk': how many values and letters a reading holds, each counted each time it is reached (what is shared counts as often as it is met; a slice's spare places count too). A statement '..UptoSaid' is the law's where the arguments, and the package variables that the reading takes, are together of bulk at most 1048576: NARROWER than '..Said'. Prove '..Said' where nothing that the law and all that it calls make is longer than what came in: it says more and counts as full. Else prove '..UptoSaid'. A law counts once. -/
mutual
def uptoBulk {H : Type} : DataW H → Nat
  | .lit (.string bytes) => bytes.length + 1
  | .lit _ => 1
  | .nil => 1
  | .ptr d => uptoBulk d + 1
  | .slice elems spare => uptoBulkAll elems + uptoBulkAll spare + 1
  | .agg parts => uptoBulkAll parts + 1
  | .iface _ d => uptoBulk d + 1
  | .map entries => uptoBulkEntries entries + 1
  | .held _ => 1
def uptoBulkAll {H : Type} : List (DataW H) → Nat
  | [] => 0
  | d :: r => uptoBulk d + uptoBulkAll r
def uptoBulkEntries {H : Type} : List (Lit × DataW H) → Nat
  | [] => 0
  | x :: r => uptoBulkEntry x + uptoBulkEntries r
def uptoBulkEntry {H : Type} : Lit × DataW H → Nat
  | (.string bytes, d) => bytes.length + uptoBulk d + 1
  | (_, d) => uptoBulk d + 1
 end
def uptoSmall : (H : Type) → List (DataW H) → Bool := fun _ ds => decide (uptoBulkAll ds ≤ 1048576)
def OpenSpec.upto (s : _root_.Go.ChangeSpec) : _root_.Go.OpenSpec := { _root_.Go.OpenSpec.ofChange s with cond := some uptoSmall }

/-- 'laws.FnExactShapeErrors', WHERE WHAT IT READS IS OF BULK AT MOST 1048576: true; the input reads as it did. -/
def fnExactShapeErrorsUptoRow : OpenClaim := { program := "ytfmjpojbgfbcaaa", sum := "7e4475d5ca9391525eff294cceba038622d15b18ea8fc08e1ea7711543a92bc7", func := "loop.example/g01198/laws.FnExactShapeErrors", spec := "fnExactShapeErrors", unfollowed := true, recurses := true, apart := false, narrowed := true }
def FnExactShapeErrorsUptoSaid : Prop := fnExactShapeErrorsUptoRow.holds Try.pinned (OpenSpec.upto fnExactShapeErrorsSpec)

/-- 'laws.FnExactShapeSignal', WHERE WHAT IT READS IS OF BULK AT MOST 1048576: true; the input reads as it did. -/
def fnExactShapeSignalUptoRow : OpenClaim := { program := "ytfmjpojbgfbcaaa", sum := "7e4475d5ca9391525eff294cceba038622d15b18ea8fc08e1ea7711543a92bc7", func := "loop.example/g01198/laws.FnExactShapeSignal", spec := "fnExactShapeSignal", unfollowed := true, recurses := true, apart := false, narrowed := true }
def FnExactShapeSignalUptoSaid : Prop := fnExactShapeSignalUptoRow.holds Try.pinned (OpenSpec.upto fnExactShapeSignalSpec)

/-- 'laws.FnExactShapedSums', WHERE WHAT IT READS IS OF BULK AT MOST 1048576: true; the input reads as it did. -/
def fnExactShapedSumsUptoRow : OpenClaim := { program := "ytfmjpojbgfbcaaa", sum := "7e4475d5ca9391525eff294cceba038622d15b18ea8fc08e1ea7711543a92bc7", func := "loop.example/g01198/laws.FnExactShapedSums", spec := "fnExactShapedSums", unfollowed := true, recurses := true, apart := false, narrowed := true }
def FnExactShapedSumsUptoSaid : Prop := fnExactShapedSumsUptoRow.holds Try.pinned (OpenSpec.upto fnExactShapedSumsSpec)

/-- 'laws.FnExactGreatestShapeGap', WHERE WHAT IT READS IS OF BULK AT MOST 1048576: true; the input reads as it did. -/
def fnExactGreatestShapeGapUptoRow : OpenClaim := { program := "ytfmjpojbgfbcaaa", sum := "7e4475d5ca9391525eff294cceba038622d15b18ea8fc08e1ea7711543a92bc7", func := "loop.example/g01198/laws.FnExactGreatestShapeGap", spec := "fnExactGreatestShapeGap", unfollowed := true, recurses := true, apart := false, narrowed := true }
def FnExactGreatestShapeGapUptoSaid : Prop := fnExactGreatestShapeGapUptoRow.holds Try.pinned (OpenSpec.upto fnExactGreatestShapeGapSpec)

/-- 'laws.FnExactAreParts', WHERE WHAT IT READS IS OF BULK AT MOST 1048576: true; the input reads as it did. -/
def fnExactArePartsUptoRow : OpenClaim := { program := "ytfmjpojbgfbcaaa", sum := "7e4475d5ca9391525eff294cceba038622d15b18ea8fc08e1ea7711543a92bc7", func := "loop.example/g01198/laws.FnExactAreParts", spec := "fnExactAreParts", unfollowed := true, recurses := true, apart := false, narrowed := true }
def FnExactArePartsUptoSaid : Prop := fnExactArePartsUptoRow.holds Try.pinned (OpenSpec.upto fnExactArePartsSpec)

/-- 'laws.FnExactShiftOfChain', WHERE WHAT IT READS IS OF BULK AT MOST 1048576: true; the input reads as it did. -/
def fnExactShiftOfChainUptoRow : OpenClaim := { program := "ytfmjpojbgfbcaaa", sum := "7e4475d5ca9391525eff294cceba038622d15b18ea8fc08e1ea7711543a92bc7", func := "loop.example/g01198/laws.FnExactShiftOfChain", spec := "fnExactShiftOfChain", unfollowed := true, recurses := true, apart := false, narrowed := true }
def FnExactShiftOfChainUptoSaid : Prop := fnExactShiftOfChainUptoRow.holds Try.pinned (OpenSpec.upto fnExactShiftOfChainSpec)

/-- 'laws.FnExactWeightsOfChain', WHERE WHAT IT READS IS OF BULK AT MOST 1048576: true; the input reads as it did. -/
def fnExactWeightsOfChainUptoRow : OpenClaim := { program := "ytfmjpojbgfbcaaa", sum := "7e4475d5ca9391525eff294cceba038622d15b18ea8fc08e1ea7711543a92bc7", func := "loop.example/g01198/laws.FnExactWeightsOfChain", spec := "fnExactWeightsOfChain", unfollowed := true, recurses := true, apart := false, narrowed := true }
def FnExactWeightsOfChainUptoSaid : Prop := fnExactWeightsOfChainUptoRow.holds Try.pinned (OpenSpec.upto fnExactWeightsOfChainSpec)

/-- 'laws.FnExactExactChain', WHERE WHAT IT READS IS OF BULK AT MOST 1048576: true; the input reads as it did. -/
def fnExactExactChainUptoRow : OpenClaim := { program := "ytfmjpojbgfbcaaa", sum := "7e4475d5ca9391525eff294cceba038622d15b18ea8fc08e1ea7711543a92bc7", func := "loop.example/g01198/laws.FnExactExactChain", spec := "fnExactExactChain", unfollowed := true, recurses := true, apart := false, narrowed := true }
def FnExactExactChainUptoSaid : Prop := fnExactExactChainUptoRow.holds Try.pinned (OpenSpec.upto fnExactExactChainSpec)

end Rows
end Go.Proofs.Ytfmjpojbgfbcaaa

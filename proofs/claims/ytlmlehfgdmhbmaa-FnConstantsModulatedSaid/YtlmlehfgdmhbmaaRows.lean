/-
  No cell of these rows narrows 'for every input' (looked for: loops, veiled, ifaces, maps, wideKeys, modest, calm, conditions, laid).
  DERIVED. THE GIVEN ROWS OF THIS SEAT. 12 by the template 'for every input the law returns true; each argument reads behind the call as it read before'; 0 by the template 'total and deterministic' (their statements: YtlmlehfgdmhbmaaTotals.lean).
  GIVEN WITH THE SEED: the statements are not yours to turn. If you find one false, say at which input.
  Laid BY PROGRAM, IN A SANDBOX (cutbox-rows.mjs): the forced cells as the released guide's own fill.sh prints them over the translation 66cf5494b74425d9… (all of the seat's roots in one cut). By AI agents, Wed Nov 11 2026. No macro, syntax, notation, axiom, sorry.
-/
import Derived.Test.YtlmlehfgdmhbmaaChecked
import GoSem.Claim
import GoSem.ClaimJoined
import GoSem.ClaimMapViews
import Derived.JoinedTies
import Derived.KernelRfl
namespace Go.Proofs.Ytlmlehfgdmhbmaa
/- THE CELL 'sum', in the pinned program and in every row, IS THE sha256 OF THE DUMP (.gsa) THAT YtlmlehfgdmhbmaaProg.lean LOADS. Nothing in Lean hashes anything: it is a label: what it is worth is what the hold of that sum in a sandbox is worth. -/
noncomputable def Try.pinned : Pinned := { name := "ytlmlehfgdmhbmaa", sum := "66cf5494b74425d91d3c3fc228ad21dec146f6519392f8d1002a01c92ad29413", checked := Try.checked }
namespace Rows
def none {H : Type} : Left H := { results := [], args := [] }

/-- 'laws.FnExactWrappedSums': WHATEVER THE INPUT: true; the input reads as it did. -/
def fnExactWrappedSumsSpec : ChangeSpec := { name := "fnExactWrappedSums", fn := fun _ => fun
  | [d1, d2, d3] => { results := [.lit (.bool true)], args := [d1, d2, d3] }
  | _ => none }
def fnExactWrappedSumsRow : OpenClaim := { program := "ytlmlehfgdmhbmaa", sum := "66cf5494b74425d91d3c3fc228ad21dec146f6519392f8d1002a01c92ad29413", func := "loop.example/g01198/laws.FnExactWrappedSums", spec := "fnExactWrappedSums", unfollowed := true, recurses := true, apart := false }
def FnExactWrappedSumsSaid : Prop := fnExactWrappedSumsRow.holds Try.pinned (OpenSpec.ofChange fnExactWrappedSumsSpec)

/-- ITS FALSE NEIGHBOUR: 'it returns false'. Refute it at one input. -/
def fnExactWrappedSumsWrong : ChangeSpec := { name := "fnExactWrappedSums", fn := fun _ => fun
  | [d1, d2, d3] => { results := [.lit (.bool false)], args := [d1, d2, d3] }
  | _ => none }
def FnExactWrappedSumsWrongFalsely : Prop := fnExactWrappedSumsRow.holds Try.pinned (OpenSpec.ofChange fnExactWrappedSumsWrong)

/-- 'laws.FnExactWrappedCombs': WHATEVER THE INPUT: true; the input reads as it did. -/
def fnExactWrappedCombsSpec : ChangeSpec := { name := "fnExactWrappedCombs", fn := fun _ => fun
  | [d1, d2, d3] => { results := [.lit (.bool true)], args := [d1, d2, d3] }
  | _ => none }
def fnExactWrappedCombsRow : OpenClaim := { program := "ytlmlehfgdmhbmaa", sum := "66cf5494b74425d91d3c3fc228ad21dec146f6519392f8d1002a01c92ad29413", func := "loop.example/g01198/laws.FnExactWrappedCombs", spec := "fnExactWrappedCombs", unfollowed := true, recurses := true, apart := false }
def FnExactWrappedCombsSaid : Prop := fnExactWrappedCombsRow.holds Try.pinned (OpenSpec.ofChange fnExactWrappedCombsSpec)

/-- ITS FALSE NEIGHBOUR: 'it returns false'. Refute it at one input. -/
def fnExactWrappedCombsWrong : ChangeSpec := { name := "fnExactWrappedCombs", fn := fun _ => fun
  | [d1, d2, d3] => { results := [.lit (.bool false)], args := [d1, d2, d3] }
  | _ => none }
def FnExactWrappedCombsWrongFalsely : Prop := fnExactWrappedCombsRow.holds Try.pinned (OpenSpec.ofChange fnExactWrappedCombsWrong)

/-- 'laws.FnExactWrappedComb': WHATEVER THE INPUT: true; the input reads as it did. -/
def fnExactWrappedCombSpec : ChangeSpec := { name := "fnExactWrappedComb", fn := fun _ => fun
  | [d1, d2, d3, d4] => { results := [.lit (.bool true)], args := [d1, d2, d3, d4] }
  | _ => none }
def fnExactWrappedCombRow : OpenClaim := { program := "ytlmlehfgdmhbmaa", sum := "66cf5494b74425d91d3c3fc228ad21dec146f6519392f8d1002a01c92ad29413", func := "loop.example/g01198/laws.FnExactWrappedComb", spec := "fnExactWrappedComb", unfollowed := true, recurses := true, apart := false }
def FnExactWrappedCombSaid : Prop := fnExactWrappedCombRow.holds Try.pinned (OpenSpec.ofChange fnExactWrappedCombSpec)

/-- ITS FALSE NEIGHBOUR: 'it returns false'. Refute it at one input. -/
def fnExactWrappedCombWrong : ChangeSpec := { name := "fnExactWrappedComb", fn := fun _ => fun
  | [d1, d2, d3, d4] => { results := [.lit (.bool false)], args := [d1, d2, d3, d4] }
  | _ => none }
def FnExactWrappedCombWrongFalsely : Prop := fnExactWrappedCombRow.holds Try.pinned (OpenSpec.ofChange fnExactWrappedCombWrong)

/-- 'laws.FnExactWrappedRise': WHATEVER THE INPUT: true; the input reads as it did. -/
def fnExactWrappedRiseSpec : ChangeSpec := { name := "fnExactWrappedRise", fn := fun _ => fun
  | [d1, d2, d3, d4] => { results := [.lit (.bool true)], args := [d1, d2, d3, d4] }
  | _ => none }
def fnExactWrappedRiseRow : OpenClaim := { program := "ytlmlehfgdmhbmaa", sum := "66cf5494b74425d91d3c3fc228ad21dec146f6519392f8d1002a01c92ad29413", func := "loop.example/g01198/laws.FnExactWrappedRise", spec := "fnExactWrappedRise", unfollowed := true, recurses := true, apart := false }
def FnExactWrappedRiseSaid : Prop := fnExactWrappedRiseRow.holds Try.pinned (OpenSpec.ofChange fnExactWrappedRiseSpec)

/-- ITS FALSE NEIGHBOUR: 'it returns false'. Refute it at one input. -/
def fnExactWrappedRiseWrong : ChangeSpec := { name := "fnExactWrappedRise", fn := fun _ => fun
  | [d1, d2, d3, d4] => { results := [.lit (.bool false)], args := [d1, d2, d3, d4] }
  | _ => none }
def FnExactWrappedRiseWrongFalsely : Prop := fnExactWrappedRiseRow.holds Try.pinned (OpenSpec.ofChange fnExactWrappedRiseWrong)

/-- 'laws.FnExactCountWraps': WHATEVER THE INPUT: true; the input reads as it did. -/
def fnExactCountWrapsSpec : ChangeSpec := { name := "fnExactCountWraps", fn := fun _ => fun
  | [d1, d2, d3] => { results := [.lit (.bool true)], args := [d1, d2, d3] }
  | _ => none }
def fnExactCountWrapsRow : OpenClaim := { program := "ytlmlehfgdmhbmaa", sum := "66cf5494b74425d91d3c3fc228ad21dec146f6519392f8d1002a01c92ad29413", func := "loop.example/g01198/laws.FnExactCountWraps", spec := "fnExactCountWraps", unfollowed := true, recurses := true, apart := false }
def FnExactCountWrapsSaid : Prop := fnExactCountWrapsRow.holds Try.pinned (OpenSpec.ofChange fnExactCountWrapsSpec)

/-- ITS FALSE NEIGHBOUR: 'it returns false'. Refute it at one input. -/
def fnExactCountWrapsWrong : ChangeSpec := { name := "fnExactCountWraps", fn := fun _ => fun
  | [d1, d2, d3] => { results := [.lit (.bool false)], args := [d1, d2, d3] }
  | _ => none }
def FnExactCountWrapsWrongFalsely : Prop := fnExactCountWrapsRow.holds Try.pinned (OpenSpec.ofChange fnExactCountWrapsWrong)

/-- 'laws.FnExactExactRise': WHATEVER THE INPUT: true; the input reads as it did. -/
def fnExactExactRiseSpec : ChangeSpec := { name := "fnExactExactRise", fn := fun _ => fun
  | [d1, d2, d3] => { results := [.lit (.bool true)], args := [d1, d2, d3] }
  | _ => none }
def fnExactExactRiseRow : OpenClaim := { program := "ytlmlehfgdmhbmaa", sum := "66cf5494b74425d91d3c3fc228ad21dec146f6519392f8d1002a01c92ad29413", func := "loop.example/g01198/laws.FnExactExactRise", spec := "fnExactExactRise", unfollowed := true, recurses := true, apart := false }
def FnExactExactRiseSaid : Prop := fnExactExactRiseRow.holds Try.pinned (OpenSpec.ofChange fnExactExactRiseSpec)

/-- ITS FALSE NEIGHBOUR: 'it returns false'. Refute it at one input. -/
def fnExactExactRiseWrong : ChangeSpec := { name := "fnExactExactRise", fn := fun _ => fun
  | [d1, d2, d3] => { results := [.lit (.bool false)], args := [d1, d2, d3] }
  | _ => none }
def FnExactExactRiseWrongFalsely : Prop := fnExactExactRiseRow.holds Try.pinned (OpenSpec.ofChange fnExactExactRiseWrong)

/-- 'laws.FnExactHoldSamples': WHATEVER THE INPUT: true; the input reads as it did. -/
def fnExactHoldSamplesSpec : ChangeSpec := { name := "fnExactHoldSamples", fn := fun _ => fun
  | [d1, d2, d3] => { results := [.lit (.bool true)], args := [d1, d2, d3] }
  | _ => none }
def fnExactHoldSamplesRow : OpenClaim := { program := "ytlmlehfgdmhbmaa", sum := "66cf5494b74425d91d3c3fc228ad21dec146f6519392f8d1002a01c92ad29413", func := "loop.example/g01198/laws.FnExactHoldSamples", spec := "fnExactHoldSamples", unfollowed := true, recurses := true, apart := false }
def FnExactHoldSamplesSaid : Prop := fnExactHoldSamplesRow.holds Try.pinned (OpenSpec.ofChange fnExactHoldSamplesSpec)

/-- ITS FALSE NEIGHBOUR: 'it returns false'. Refute it at one input. -/
def fnExactHoldSamplesWrong : ChangeSpec := { name := "fnExactHoldSamples", fn := fun _ => fun
  | [d1, d2, d3] => { results := [.lit (.bool false)], args := [d1, d2, d3] }
  | _ => none }
def FnExactHoldSamplesWrongFalsely : Prop := fnExactHoldSamplesRow.holds Try.pinned (OpenSpec.ofChange fnExactHoldSamplesWrong)

/-- 'laws.FnExactNearSamples': WHATEVER THE INPUT: true; the input reads as it did. -/
def fnExactNearSamplesSpec : ChangeSpec := { name := "fnExactNearSamples", fn := fun _ => fun
  | [d1, d2, d3] => { results := [.lit (.bool true)], args := [d1, d2, d3] }
  | _ => none }
def fnExactNearSamplesRow : OpenClaim := { program := "ytlmlehfgdmhbmaa", sum := "66cf5494b74425d91d3c3fc228ad21dec146f6519392f8d1002a01c92ad29413", func := "loop.example/g01198/laws.FnExactNearSamples", spec := "fnExactNearSamples", unfollowed := true, recurses := true, apart := false }
def FnExactNearSamplesSaid : Prop := fnExactNearSamplesRow.holds Try.pinned (OpenSpec.ofChange fnExactNearSamplesSpec)

/-- ITS FALSE NEIGHBOUR: 'it returns false'. Refute it at one input. -/
def fnExactNearSamplesWrong : ChangeSpec := { name := "fnExactNearSamples", fn := fun _ => fun
  | [d1, d2, d3] => { results := [.lit (.bool false)], args := [d1, d2, d3] }
  | _ => none }
def FnExactNearSamplesWrongFalsely : Prop := fnExactNearSamplesRow.holds Try.pinned (OpenSpec.ofChange fnExactNearSamplesWrong)

/-- 'laws.FnExactLineSamples': WHATEVER THE INPUT: true; the input reads as it did. -/
def fnExactLineSamplesSpec : ChangeSpec := { name := "fnExactLineSamples", fn := fun _ => fun
  | [d1, d2, d3] => { results := [.lit (.bool true)], args := [d1, d2, d3] }
  | _ => none }
def fnExactLineSamplesRow : OpenClaim := { program := "ytlmlehfgdmhbmaa", sum := "66cf5494b74425d91d3c3fc228ad21dec146f6519392f8d1002a01c92ad29413", func := "loop.example/g01198/laws.FnExactLineSamples", spec := "fnExactLineSamples", unfollowed := true, recurses := true, apart := false }
def FnExactLineSamplesSaid : Prop := fnExactLineSamplesRow.holds Try.pinned (OpenSpec.ofChange fnExactLineSamplesSpec)

/-- ITS FALSE NEIGHBOUR: 'it returns false'. Refute it at one input. -/
def fnExactLineSamplesWrong : ChangeSpec := { name := "fnExactLineSamples", fn := fun _ => fun
  | [d1, d2, d3] => { results := [.lit (.bool false)], args := [d1, d2, d3] }
  | _ => none }
def FnExactLineSamplesWrongFalsely : Prop := fnExactLineSamplesRow.holds Try.pinned (OpenSpec.ofChange fnExactLineSamplesWrong)

/-- 'laws.FnExactTwoStates': WHATEVER THE INPUT: true; the input reads as it did. -/
def fnExactTwoStatesSpec : ChangeSpec := { name := "fnExactTwoStates", fn := fun _ => fun
  | [d1, d2] => { results := [.lit (.bool true)], args := [d1, d2] }
  | _ => none }
def fnExactTwoStatesRow : OpenClaim := { program := "ytlmlehfgdmhbmaa", sum := "66cf5494b74425d91d3c3fc228ad21dec146f6519392f8d1002a01c92ad29413", func := "loop.example/g01198/laws.FnExactTwoStates", spec := "fnExactTwoStates", unfollowed := true, recurses := true, apart := false }
def FnExactTwoStatesSaid : Prop := fnExactTwoStatesRow.holds Try.pinned (OpenSpec.ofChange fnExactTwoStatesSpec)

/-- ITS FALSE NEIGHBOUR: 'it returns false'. Refute it at one input. -/
def fnExactTwoStatesWrong : ChangeSpec := { name := "fnExactTwoStates", fn := fun _ => fun
  | [d1, d2] => { results := [.lit (.bool false)], args := [d1, d2] }
  | _ => none }
def FnExactTwoStatesWrongFalsely : Prop := fnExactTwoStatesRow.holds Try.pinned (OpenSpec.ofChange fnExactTwoStatesWrong)

/-- 'laws.FnExactIsBalancedList': WHATEVER THE INPUT: true; the input reads as it did. -/
def fnExactIsBalancedListSpec : ChangeSpec := { name := "fnExactIsBalancedList", fn := fun _ => fun
  | [d] => { results := [.lit (.bool true)], args := [d] }
  | _ => none }
def fnExactIsBalancedListRow : OpenClaim := { program := "ytlmlehfgdmhbmaa", sum := "66cf5494b74425d91d3c3fc228ad21dec146f6519392f8d1002a01c92ad29413", func := "loop.example/g01198/laws.FnExactIsBalancedList", spec := "fnExactIsBalancedList", unfollowed := true, recurses := true, apart := false }
def FnExactIsBalancedListSaid : Prop := fnExactIsBalancedListRow.holds Try.pinned (OpenSpec.ofChange fnExactIsBalancedListSpec)

/-- ITS FALSE NEIGHBOUR: 'it returns false'. Refute it at one input. -/
def fnExactIsBalancedListWrong : ChangeSpec := { name := "fnExactIsBalancedList", fn := fun _ => fun
  | [d] => { results := [.lit (.bool false)], args := [d] }
  | _ => none }
def FnExactIsBalancedListWrongFalsely : Prop := fnExactIsBalancedListRow.holds Try.pinned (OpenSpec.ofChange fnExactIsBalancedListWrong)

/-- 'laws.FnConstantsModulated': WHATEVER THE INPUT: true; the input reads as it did. -/
def fnConstantsModulatedSpec : ChangeSpec := { name := "fnConstantsModulated", fn := fun _ => fun
  | [d1, d2] => { results := [.lit (.bool true)], args := [d1, d2] }
  | _ => none }
def fnConstantsModulatedRow : OpenClaim := { program := "ytlmlehfgdmhbmaa", sum := "66cf5494b74425d91d3c3fc228ad21dec146f6519392f8d1002a01c92ad29413", func := "loop.example/g01198/laws.FnConstantsModulated", spec := "fnConstantsModulated", unfollowed := true, recurses := true, apart := false }
def FnConstantsModulatedSaid : Prop := fnConstantsModulatedRow.holds Try.pinned (OpenSpec.ofChange fnConstantsModulatedSpec)

/-- ITS FALSE NEIGHBOUR: 'it returns false'. Refute it at one input. -/
def fnConstantsModulatedWrong : ChangeSpec := { name := "fnConstantsModulated", fn := fun _ => fun
  | [d1, d2] => { results := [.lit (.bool false)], args := [d1, d2] }
  | _ => none }
def FnConstantsModulatedWrongFalsely : Prop := fnConstantsModulatedRow.holds Try.pinned (OpenSpec.ofChange fnConstantsModulatedWrong)

/- THE SECOND FORM. 'bulk': how many values and letters a reading holds, each counted each time it is reached (what is shared counts as often as it is met; a slice's spare places count too). A statement '..UptoSaid' is the law's where the arguments, and the package variables that the reading takes, are together of bulk at most 1048576: NARROWER than '..Said'. Prove '..Said' where nothing that the law and all that it calls make is longer than what came in: it says more and counts as full. Else prove '..UptoSaid'. A law counts once. -/
mutual
def uptoBulk {H : Type} : DataW H → Nat
  | .lit (.string bytes) => bytes.length + 1
  | .lit _ => 1
  | .nil => 1
  | .ptr d => uptoBulk d + 1
  | .slice elems spare => uptoBulkAll elems + uptoBulkAll spare + 1
  | .agg parts => uptoBulkAll parts + 1
  | .iface _ d => uptoBulk d + 1
  | .map entries => uptoBulkEntries entries + 1
  | .held _ => 1
def uptoBulkAll {H : Type} : List (DataW H) → Nat
  | [] => 0
  | d :: r => uptoBulk d + uptoBulkAll r
def uptoBulkEntries {H : Type} : List (Lit × DataW H) → Nat
  | [] => 0
  | x :: r => uptoBulkEntry x + uptoBulkEntries r
def uptoBulkEntry {H : Type} : Lit × DataW H → Nat
  | (.string bytes, d) => bytes.length + uptoBulk d + 1
  | (_, d) => uptoBulk d + 1
 end
def uptoSmall : (H : Type) → List (DataW H) → Bool := fun _ ds => decide (uptoBulkAll ds ≤ 1048576)
def OpenSpec.upto (s : _root_.Go.ChangeSpec) : _root_.Go.OpenSpec := { _root_.Go.OpenSpec.ofChange s with cond := some uptoSmall }

/-- 'laws.FnExactWrappedSums', WHERE WHAT IT READS IS OF BULK AT MOST 1048576: true; the input reads as it did. -/
def fnExactWrappedSumsUptoRow : OpenClaim := { program := "ytlmlehfgdmhbmaa", sum := "66cf5494b74425d91d3c3fc228ad21dec146f6519392f8d1002a01c92ad29413", func := "loop.example/g01198/laws.FnExactWrappedSums", spec := "fnExactWrappedSums", unfollowed := true, recurses := true, apart := false, narrowed := true }
def FnExactWrappedSumsUptoSaid : Prop := fnExactWrappedSumsUptoRow.holds Try.pinned (OpenSpec.upto fnExactWrappedSumsSpec)

/-- 'laws.FnExactWrappedCombs', WHERE WHAT IT READS IS OF BULK AT MOST 1048576: true; the input reads as it did. -/
def fnExactWrappedCombsUptoRow : OpenClaim := { program := "ytlmlehfgdmhbmaa", sum := "66cf5494b74425d91d3c3fc228ad21dec146f6519392f8d1002a01c92ad29413", func := "loop.example/g01198/laws.FnExactWrappedCombs", spec := "fnExactWrappedCombs", unfollowed := true, recurses := true, apart := false, narrowed := true }
def FnExactWrappedCombsUptoSaid : Prop := fnExactWrappedCombsUptoRow.holds Try.pinned (OpenSpec.upto fnExactWrappedCombsSpec)

/-- 'laws.FnExactWrappedComb', WHERE WHAT IT READS IS OF BULK AT MOST 1048576: true; the input reads as it did. -/
def fnExactWrappedCombUptoRow : OpenClaim := { program := "ytlmlehfgdmhbmaa", sum := "66cf5494b74425d91d3c3fc228ad21dec146f6519392f8d1002a01c92ad29413", func := "loop.example/g01198/laws.FnExactWrappedComb", spec := "fnExactWrappedComb", unfollowed := true, recurses := true, apart := false, narrowed := true }
def FnExactWrappedCombUptoSaid : Prop := fnExactWrappedCombUptoRow.holds Try.pinned (OpenSpec.upto fnExactWrappedCombSpec)

/-- 'laws.FnExactWrappedRise', WHERE WHAT IT READS IS OF BULK AT MOST 1048576: true; the input reads as it did. -/
def fnExactWrappedRiseUptoRow : OpenClaim := { program := "ytlmlehfgdmhbmaa", sum := "66cf5494b74425d91d3c3fc228ad21dec146f6519392f8d1002a01c92ad29413", func := "loop.example/g01198/laws.FnExactWrappedRise", spec := "fnExactWrappedRise", unfollowed := true, recurses := true, apart := false, narrowed := true }
def FnExactWrappedRiseUptoSaid : Prop := fnExactWrappedRiseUptoRow.holds Try.pinned (OpenSpec.upto fnExactWrappedRiseSpec)

/-- 'laws.FnExactCountWraps', WHERE WHAT IT READS IS OF BULK AT MOST 1048576: true; the input reads as it did. -/
def fnExactCountWrapsUptoRow : OpenClaim := { program := "ytlmlehfgdmhbmaa", sum := "66cf5494b74425d91d3c3fc228ad21dec146f6519392f8d1002a01c92ad29413", func := "loop.example/g01198/laws.FnExactCountWraps", spec := "fnExactCountWraps", unfollowed := true, recurses := true, apart := false, narrowed := true }
def FnExactCountWrapsUptoSaid : Prop := fnExactCountWrapsUptoRow.holds Try.pinned (OpenSpec.upto fnExactCountWrapsSpec)

/-- 'laws.FnExactExactRise', WHERE WHAT IT READS IS OF BULK AT MOST 1048576: true; the input reads as it did. -/
def fnExactExactRiseUptoRow : OpenClaim := { program := "ytlmlehfgdmhbmaa", sum := "66cf5494b74425d91d3c3fc228ad21dec146f6519392f8d1002a01c92ad29413", func := "loop.example/g01198/laws.FnExactExactRise", spec := "fnExactExactRise", unfollowed := true, recurses := true, apart := false, narrowed := true }
def FnExactExactRiseUptoSaid : Prop := fnExactExactRiseUptoRow.holds Try.pinned (OpenSpec.upto fnExactExactRiseSpec)

/-- 'laws.FnExactHoldSamples', WHERE WHAT IT READS IS OF BULK AT MOST 1048576: true; the input reads as it did. -/
def fnExactHoldSamplesUptoRow : OpenClaim := { program := "ytlmlehfgdmhbmaa", sum := "66cf5494b74425d91d3c3fc228ad21dec146f6519392f8d1002a01c92ad29413", func := "loop.example/g01198/laws.FnExactHoldSamples", spec := "fnExactHoldSamples", unfollowed := true, recurses := true, apart := false, narrowed := true }
def FnExactHoldSamplesUptoSaid : Prop := fnExactHoldSamplesUptoRow.holds Try.pinned (OpenSpec.upto fnExactHoldSamplesSpec)

/-- 'laws.FnExactNearSamples', WHERE WHAT IT READS IS OF BULK AT MOST 1048576: true; the input reads as it did. -/
def fnExactNearSamplesUptoRow : OpenClaim := { program := "ytlmlehfgdmhbmaa", sum := "66cf5494b74425d91d3c3fc228ad21dec146f6519392f8d1002a01c92ad29413", func := "loop.example/g01198/laws.FnExactNearSamples", spec := "fnExactNearSamples", unfollowed := true, recurses := true, apart := false, narrowed := true }
def FnExactNearSamplesUptoSaid : Prop := fnExactNearSamplesUptoRow.holds Try.pinned (OpenSpec.upto fnExactNearSamplesSpec)

/-- 'laws.FnExactLineSamples', WHERE WHAT IT READS IS OF BULK AT MOST 1048576: true; the input reads as it did. -/
def fnExactLineSamplesUptoRow : OpenClaim := { program := "ytlmlehfgdmhbmaa", sum := "66cf5494b74425d91d3c3fc228ad21dec146f6519392f8d1002a01c92ad29413", func := "loop.example/g01198/laws.FnExactLineSamples", spec := "fnExactLineSamples", unfollowed := true, recurses := true, apart := false, narrowed := true }
def FnExactLineSamplesUptoSaid : Prop := fnExactLineSamplesUptoRow.holds Try.pinned (OpenSpec.upto fnExactLineSamplesSpec)

/-- 'laws.FnExactTwoStates', WHERE WHAT IT READS IS OF BULK AT MOST 1048576: true; the input reads as it did. -/
def fnExactTwoStatesUptoRow : OpenClaim := { program := "ytlmlehfgdmhbmaa", sum := "66cf5494b74425d91d3c3fc228ad21dec146f6519392f8d1002a01c92ad29413", func := "loop.example/g01198/laws.FnExactTwoStates", spec := "fnExactTwoStates", unfollowed := true, recurses := true, apart := false, narrowed := true }
def FnExactTwoStatesUptoSaid : Prop := fnExactTwoStatesUptoRow.holds Try.pinned (OpenSpec.upto fnExactTwoStatesSpec)

/-- 'laws.FnExactIsBalancedList', WHERE WHAT IT READS IS OF BULK AT MOST 1048576: true; the input reads as it did. -/
def fnExactIsBalancedListUptoRow : OpenClaim := { program := "ytlmlehfgdmhbmaa", sum := "66cf5494b74425d91d3c3fc228ad21dec146f6519392f8d1002a01c92ad29413", func := "loop.example/g01198/laws.FnExactIsBalancedList", spec := "fnExactIsBalancedList", unfollowed := true, recurses := true, apart := false, narrowed := true }
def FnExactIsBalancedListUptoSaid : Prop := fnExactIsBalancedListUptoRow.holds Try.pinned (OpenSpec.upto fnExactIsBalancedListSpec)

/-- 'laws.FnConstantsModulated', WHERE WHAT IT READS IS OF BULK AT MOST 1048576: true; the input reads as it did. -/
def fnConstantsModulatedUptoRow : OpenClaim := { program := "ytlmlehfgdmhbmaa", sum := "66cf5494b74425d91d3c3fc228ad21dec146f6519392f8d1002a01c92ad29413", func := "loop.example/g01198/laws.FnConstantsModulated", spec := "fnConstantsModulated", unfollowed := true, recurses := true, apart := false, narrowed := true }
def FnConstantsModulatedUptoSaid : Prop := fnConstantsModulatedUptoRow.holds Try.pinned (OpenSpec.upto fnConstantsModulatedSpec)

end Rows
end Go.Proofs.Ytlmlehfgdmhbmaa

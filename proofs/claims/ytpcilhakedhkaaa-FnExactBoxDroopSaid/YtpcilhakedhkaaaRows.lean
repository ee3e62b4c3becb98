/-
  No cell of these rows narrows 'for every input' (looked for: loops, veiled, ifaces, maps, wideKeys, modest, calm, conditions, laid).
  DERIVED. THE GIVEN ROWS OF THIS SEAT. 12 by the template 'for every input the law returns true; each argument reads behind the call as it read before'; 0 by the template 'total and deterministic' (their statements: YtpcilhakedhkaaaTotals.lean).
  GIVEN WITH THE SEED: the statements are not yours to turn. If you find one false, say at which input.
  Laid BY PROGRAM, IN A SANDBOX (cutbox-rows.mjs): the forced cells as the released guide's own fill.sh prints them over the translation e6de8e245d89d4f7… (all of the seat's roots in one cut). By AI agents, Wed Nov 11 2026. No macro, syntax, notation, axiom, sorry.
-/
import Derived.Test.YtpcilhakedhkaaaChecked
import GoSem.Claim
import GoSem.ClaimJoined
import GoSem.ClaimMapViews
import Derived.JoinedTies
import Derived.KernelRfl
namespace Go.Proofs.Ytpcilhakedhkaaa
/- THE CELL 'sum', in the pinned program and in every row, IS THE sha256 OF THE DUMP (.gsa) THAT YtpcilhakedhkaaaProg.lean LOADS. Nothing in Lean hashes anything: it is a label: what it is worth is what the hold of that sum in a sandbox is worth. -/
noncomputable def Try.pinned : Pinned := { name := "ytpcilhakedhkaaa", sum := "e6de8e245d89d4f72d3028bee6e61b0c8893fe4163f4c057e8e743b0ba2b89f1", checked := Try.checked }
namespace Rows
def none {H : Type} : Left H := { results := [], args := [] }

/-- 'laws.FnExactTwoBands': WHATEVER THE INPUT: true; the input reads as it did. -/
def fnExactTwoBandsSpec : ChangeSpec := { name := "fnExactTwoBands", fn := fun _ => fun
  | [d] => { results := [.lit (.bool true)], args := [d] }
  | _ => none }
def fnExactTwoBandsRow : OpenClaim := { program := "ytpcilhakedhkaaa", sum := "e6de8e245d89d4f72d3028bee6e61b0c8893fe4163f4c057e8e743b0ba2b89f1", func := "loop.example/g01198/laws.FnExactTwoBands", spec := "fnExactTwoBands", unfollowed := true, recurses := true, apart := false }
def FnExactTwoBandsSaid : Prop := fnExactTwoBandsRow.holds Try.pinned (OpenSpec.ofChange fnExactTwoBandsSpec)

/-- ITS FALSE NEIGHBOUR: 'it returns false'. Refute it at one input. -/
def fnExactTwoBandsWrong : ChangeSpec := { name := "fnExactTwoBands", fn := fun _ => fun
  | [d] => { results := [.lit (.bool false)], args := [d] }
  | _ => none }
def FnExactTwoBandsWrongFalsely : Prop := fnExactTwoBandsRow.holds Try.pinned (OpenSpec.ofChange fnExactTwoBandsWrong)

/-- 'laws.FnExactJoinBands': WHATEVER THE INPUT: true; the input reads as it did. -/
def fnExactJoinBandsSpec : ChangeSpec := { name := "fnExactJoinBands", fn := fun _ => fun
  | [d1, d2] => { results := [.lit (.bool true)], args := [d1, d2] }
  | _ => none }
def fnExactJoinBandsRow : OpenClaim := { program := "ytpcilhakedhkaaa", sum := "e6de8e245d89d4f72d3028bee6e61b0c8893fe4163f4c057e8e743b0ba2b89f1", func := "loop.example/g01198/laws.FnExactJoinBands", spec := "fnExactJoinBands", unfollowed := true, recurses := true, apart := false }
def FnExactJoinBandsSaid : Prop := fnExactJoinBandsRow.holds Try.pinned (OpenSpec.ofChange fnExactJoinBandsSpec)

/-- ITS FALSE NEIGHBOUR: 'it returns false'. Refute it at one input. -/
def fnExactJoinBandsWrong : ChangeSpec := { name := "fnExactJoinBands", fn := fun _ => fun
  | [d1, d2] => { results := [.lit (.bool false)], args := [d1, d2] }
  | _ => none }
def FnExactJoinBandsWrongFalsely : Prop := fnExactJoinBandsRow.holds Try.pinned (OpenSpec.ofChange fnExactJoinBandsWrong)

/-- 'laws.FnExactHoldSamples': WHATEVER THE INPUT: true; the input reads as it did. -/
def fnExactHoldSamplesSpec : ChangeSpec := { name := "fnExactHoldSamples", fn := fun _ => fun
  | [d1, d2, d3] => { results := [.lit (.bool true)], args := [d1, d2, d3] }
  | _ => none }
def fnExactHoldSamplesRow : OpenClaim := { program := "ytpcilhakedhkaaa", sum := "e6de8e245d89d4f72d3028bee6e61b0c8893fe4163f4c057e8e743b0ba2b89f1", func := "loop.example/g01198/laws.FnExactHoldSamples", spec := "fnExactHoldSamples", unfollowed := true, recurses := true, apart := false }
def FnExactHoldSamplesSaid : Prop := fnExactHoldSamplesRow.holds Try.pinned (OpenSpec.ofChange fnExactHoldSamplesSpec)

/-- ITS FALSE NEIGHBOUR: 'it returns false'. Refute it at one input. -/
def fnExactHoldSamplesWrong : ChangeSpec := { name := "fnExactHoldSamples", fn := fun _ => fun
  | [d1, d2, d3] => { results := [.lit (.bool false)], args := [d1, d2, d3] }
  | _ => none }
def FnExactHoldSamplesWrongFalsely : Prop := fnExactHoldSamplesRow.holds Try.pinned (OpenSpec.ofChange fnExactHoldSamplesWrong)

/-- 'laws.FnExactNearSamples': WHATEVER THE INPUT: true; the input reads as it did. -/
def fnExactNearSamplesSpec : ChangeSpec := { name := "fnExactNearSamples", fn := fun _ => fun
  | [d1, d2, d3] => { results := [.lit (.bool true)], args := [d1, d2, d3] }
  | _ => none }
def fnExactNearSamplesRow : OpenClaim := { program := "ytpcilhakedhkaaa", sum := "e6de8e245d89d4f72d3028bee6e61b0c8893fe4163f4c057e8e743b0ba2b89f1", func := "loop.example/g01198/laws.FnExactNearSamples", spec := "fnExactNearSamples", unfollowed := true, recurses := true, apart := false }
def FnExactNearSamplesSaid : Prop := fnExactNearSamplesRow.holds Try.pinned (OpenSpec.ofChange fnExactNearSamplesSpec)

/-- ITS FALSE NEIGHBOUR: 'it returns false'. Refute it at one input. -/
def fnExactNearSamplesWrong : ChangeSpec := { name := "fnExactNearSamples", fn := fun _ => fun
  | [d1, d2, d3] => { results := [.lit (.bool false)], args := [d1, d2, d3] }
  | _ => none }
def FnExactNearSamplesWrongFalsely : Prop := fnExactNearSamplesRow.holds Try.pinned (OpenSpec.ofChange fnExactNearSamplesWrong)

/-- 'laws.FnExactLineSamples': WHATEVER THE INPUT: true; the input reads as it did. -/
def fnExactLineSamplesSpec : ChangeSpec := { name := "fnExactLineSamples", fn := fun _ => fun
  | [d1, d2, d3] => { results := [.lit (.bool true)], args := [d1, d2, d3] }
  | _ => none }
def fnExactLineSamplesRow : OpenClaim := { program := "ytpcilhakedhkaaa", sum := "e6de8e245d89d4f72d3028bee6e61b0c8893fe4163f4c057e8e743b0ba2b89f1", func := "loop.example/g01198/laws.FnExactLineSamples", spec := "fnExactLineSamples", unfollowed := true, recurses := true, apart := false }
def FnExactLineSamplesSaid : Prop := fnExactLineSamplesRow.holds Try.pinned (OpenSpec.ofChange fnExactLineSamplesSpec)

/-- ITS FALSE NEIGHBOUR: 'it returns false'. Refute it at one input. -/
def fnExactLineSamplesWrong : ChangeSpec := { name := "fnExactLineSamples", fn := fun _ => fun
  | [d1, d2, d3] => { results := [.lit (.bool false)], args := [d1, d2, d3] }
  | _ => none }
def FnExactLineSamplesWrongFalsely : Prop := fnExactLineSamplesRow.holds Try.pinned (OpenSpec.ofChange fnExactLineSamplesWrong)

/-- 'laws.FnExactProductsByPhases': WHATEVER THE INPUT: true; the input reads as it did. -/
def fnExactProductsByPhasesSpec : ChangeSpec := { name := "fnExactProductsByPhases", fn := fun _ => fun
  | [d1, d2, d3, d4] => { results := [.lit (.bool true)], args := [d1, d2, d3, d4] }
  | _ => none }
def fnExactProductsByPhasesRow : OpenClaim := { program := "ytpcilhakedhkaaa", sum := "e6de8e245d89d4f72d3028bee6e61b0c8893fe4163f4c057e8e743b0ba2b89f1", func := "loop.example/g01198/laws.FnExactProductsByPhases", spec := "fnExactProductsByPhases", unfollowed := true, recurses := true, apart := false }
def FnExactProductsByPhasesSaid : Prop := fnExactProductsByPhasesRow.holds Try.pinned (OpenSpec.ofChange fnExactProductsByPhasesSpec)

/-- ITS FALSE NEIGHBOUR: 'it returns false'. Refute it at one input. -/
def fnExactProductsByPhasesWrong : ChangeSpec := { name := "fnExactProductsByPhases", fn := fun _ => fun
  | [d1, d2, d3, d4] => { results := [.lit (.bool false)], args := [d1, d2, d3, d4] }
  | _ => none }
def FnExactProductsByPhasesWrongFalsely : Prop := fnExactProductsByPhasesRow.holds Try.pinned (OpenSpec.ofChange fnExactProductsByPhasesWrong)

/-- 'laws.FnExactStuffZeros': WHATEVER THE INPUT: true; the input reads as it did. -/
def fnExactStuffZerosSpec : ChangeSpec := { name := "fnExactStuffZeros", fn := fun _ => fun
  | [d1, d2] => { results := [.lit (.bool true)], args := [d1, d2] }
  | _ => none }
def fnExactStuffZerosRow : OpenClaim := { program := "ytpcilhakedhkaaa", sum := "e6de8e245d89d4f72d3028bee6e61b0c8893fe4163f4c057e8e743b0ba2b89f1", func := "loop.example/g01198/laws.FnExactStuffZeros", spec := "fnExactStuffZeros", unfollowed := true, recurses := true, apart := false }
def FnExactStuffZerosSaid : Prop := fnExactStuffZerosRow.holds Try.pinned (OpenSpec.ofChange fnExactStuffZerosSpec)

/-- ITS FALSE NEIGHBOUR: 'it returns false'. Refute it at one input. -/
def fnExactStuffZerosWrong : ChangeSpec := { name := "fnExactStuffZeros", fn := fun _ => fun
  | [d1, d2] => { results := [.lit (.bool false)], args := [d1, d2] }
  | _ => none }
def FnExactStuffZerosWrongFalsely : Prop := fnExactStuffZerosRow.holds Try.pinned (OpenSpec.ofChange fnExactStuffZerosWrong)

/-- 'laws.FnExactDropSamples': WHATEVER THE INPUT: true; the input reads as it did. -/
def fnExactDropSamplesSpec : ChangeSpec := { name := "fnExactDropSamples", fn := fun _ => fun
  | [d1, d2, d3] => { results := [.lit (.bool true)], args := [d1, d2, d3] }
  | _ => none }
def fnExactDropSamplesRow : OpenClaim := { program := "ytpcilhakedhkaaa", sum := "e6de8e245d89d4f72d3028bee6e61b0c8893fe4163f4c057e8e743b0ba2b89f1", func := "loop.example/g01198/laws.FnExactDropSamples", spec := "fnExactDropSamples", unfollowed := true, recurses := true, apart := false }
def FnExactDropSamplesSaid : Prop := fnExactDropSamplesRow.holds Try.pinned (OpenSpec.ofChange fnExactDropSamplesSpec)

/-- ITS FALSE NEIGHBOUR: 'it returns false'. Refute it at one input. -/
def fnExactDropSamplesWrong : ChangeSpec := { name := "fnExactDropSamples", fn := fun _ => fun
  | [d1, d2, d3] => { results := [.lit (.bool false)], args := [d1, d2, d3] }
  | _ => none }
def FnExactDropSamplesWrongFalsely : Prop := fnExactDropSamplesRow.holds Try.pinned (OpenSpec.ofChange fnExactDropSamplesWrong)

/-- 'laws.FnExactCombGain': WHATEVER THE INPUT: true; the input reads as it did. -/
def fnExactCombGainSpec : ChangeSpec := { name := "fnExactCombGain", fn := fun _ => fun
  | [d1, d2] => { results := [.lit (.bool true)], args := [d1, d2] }
  | _ => none }
def fnExactCombGainRow : OpenClaim := { program := "ytpcilhakedhkaaa", sum := "e6de8e245d89d4f72d3028bee6e61b0c8893fe4163f4c057e8e743b0ba2b89f1", func := "loop.example/g01198/laws.FnExactCombGain", spec := "fnExactCombGain", apart := false }
def FnExactCombGainSaid : Prop := fnExactCombGainRow.holds Try.pinned (OpenSpec.ofChange fnExactCombGainSpec)

/-- ITS FALSE NEIGHBOUR: 'it returns false'. Refute it at one input. -/
def fnExactCombGainWrong : ChangeSpec := { name := "fnExactCombGain", fn := fun _ => fun
  | [d1, d2] => { results := [.lit (.bool false)], args := [d1, d2] }
  | _ => none }
def FnExactCombGainWrongFalsely : Prop := fnExactCombGainRow.holds Try.pinned (OpenSpec.ofChange fnExactCombGainWrong)

/-- 'laws.FnExactBitsForComb': WHATEVER THE INPUT: true; the input reads as it did. -/
def fnExactBitsForCombSpec : ChangeSpec := { name := "fnExactBitsForComb", fn := fun _ => fun
  | [d1, d2, d3] => { results := [.lit (.bool true)], args := [d1, d2, d3] }
  | _ => none }
def fnExactBitsForCombRow : OpenClaim := { program := "ytpcilhakedhkaaa", sum := "e6de8e245d89d4f72d3028bee6e61b0c8893fe4163f4c057e8e743b0ba2b89f1", func := "loop.example/g01198/laws.FnExactBitsForComb", spec := "fnExactBitsForComb", apart := false }
def FnExactBitsForCombSaid : Prop := fnExactBitsForCombRow.holds Try.pinned (OpenSpec.ofChange fnExactBitsForCombSpec)

/-- ITS FALSE NEIGHBOUR: 'it returns false'. Refute it at one input. -/
def fnExactBitsForCombWrong : ChangeSpec := { name := "fnExactBitsForComb", fn := fun _ => fun
  | [d1, d2, d3] => { results := [.lit (.bool false)], args := [d1, d2, d3] }
  | _ => none }
def FnExactBitsForCombWrongFalsely : Prop := fnExactBitsForCombRow.holds Try.pinned (OpenSpec.ofChange fnExactBitsForCombWrong)

/-- 'laws.FnExactBoxAnswer': WHATEVER THE INPUT: true; the input reads as it did. -/
def fnExactBoxAnswerSpec : ChangeSpec := { name := "fnExactBoxAnswer", fn := fun _ => fun
  | [d1, d2] => { results := [.lit (.bool true)], args := [d1, d2] }
  | _ => none }
def fnExactBoxAnswerRow : OpenClaim := { program := "ytpcilhakedhkaaa", sum := "e6de8e245d89d4f72d3028bee6e61b0c8893fe4163f4c057e8e743b0ba2b89f1", func := "loop.example/g01198/laws.FnExactBoxAnswer", spec := "fnExactBoxAnswer", apart := false }
def FnExactBoxAnswerSaid : Prop := fnExactBoxAnswerRow.holds Try.pinned (OpenSpec.ofChange fnExactBoxAnswerSpec)

/-- ITS FALSE NEIGHBOUR: 'it returns false'. Refute it at one input. -/
def fnExactBoxAnswerWrong : ChangeSpec := { name := "fnExactBoxAnswer", fn := fun _ => fun
  | [d1, d2] => { results := [.lit (.bool false)], args := [d1, d2] }
  | _ => none }
def FnExactBoxAnswerWrongFalsely : Prop := fnExactBoxAnswerRow.holds Try.pinned (OpenSpec.ofChange fnExactBoxAnswerWrong)

/-- 'laws.FnExactBoxDroop': WHATEVER THE INPUT: true; the input reads as it did. -/
def fnExactBoxDroopSpec : ChangeSpec := { name := "fnExactBoxDroop", fn := fun _ => fun
  | [d1, d2] => { results := [.lit (.bool true)], args := [d1, d2] }
  | _ => none }
def fnExactBoxDroopRow : OpenClaim := { program := "ytpcilhakedhkaaa", sum := "e6de8e245d89d4f72d3028bee6e61b0c8893fe4163f4c057e8e743b0ba2b89f1", func := "loop.example/g01198/laws.FnExactBoxDroop", spec := "fnExactBoxDroop", apart := false }
def FnExactBoxDroopSaid : Prop := fnExactBoxDroopRow.holds Try.pinned (OpenSpec.ofChange fnExactBoxDroopSpec)

/-- ITS FALSE NEIGHBOUR: 'it returns false'. Refute it at one input. -/
def fnExactBoxDroopWrong : ChangeSpec := { name := "fnExactBoxDroop", fn := fun _ => fun
  | [d1, d2] => { results := [.lit (.bool false)], args := [d1, d2] }
  | _ => none }
def FnExactBoxDroopWrongFalsely : Prop := fnExactBoxDroopRow.holds Try.pinned (OpenSpec.ofChange fnExactBoxDroopWrong)

/- THE SECOND FORM. 'bulk': how many values and letters a reading holds, each counted each time it is reached (what is shared counts as often as it is met; a slice's spare places count too). A statement '..UptoSaid' is the law's where the arguments, and the package variables that the reading takes, are together of bulk at most 1048576: NARROWER than '..Said'. Prove '..Said' where nothing that the law and all that it calls make is longer than what came in: it says more and counts as full. Else prove '..UptoSaid'. A law counts once. -/
mutual
def uptoBulk {H : Type} : DataW H → Nat
  | .lit (.string bytes) => bytes.length + 1
  | .lit _ => 1
  | .nil => 1
  | .ptr d => uptoBulk d + 1
  | .slice elems spare => uptoBulkAll elems + uptoBulkAll spare + 1
  | .agg parts => uptoBulkAll parts + 1
  | .iface _ d => uptoBulk d + 1
  | .map entries => uptoBulkEntries entries + 1
  | .held _ => 1
def uptoBulkAll {H : Type} : List (DataW H) → Nat
  | [] => 0
  | d :: r => uptoBulk d + uptoBulkAll r
def uptoBulkEntries {H : Type} : List (Lit × DataW H) → Nat
  | [] => 0
  | x :: r => uptoBulkEntry x + uptoBulkEntries r
def uptoBulkEntry {H : Type} : Lit × DataW H → Nat
  | (.string bytes, d) => bytes.length + uptoBulk d + 1
  | (_, d) => uptoBulk d + 1
 end
def uptoSmall : (H : Type) → List (DataW H) → Bool := fun _ ds => decide (uptoBulkAll ds ≤ 1048576)
def OpenSpec.upto (s : _root_.Go.ChangeSpec) : _root_.Go.OpenSpec := { _root_.Go.OpenSpec.ofChange s with cond := some uptoSmall }

/-- 'laws.FnExactTwoBands', WHERE WHAT IT READS IS OF BULK AT MOST 1048576: true; the input reads as it did. -/
def fnExactTwoBandsUptoRow : OpenClaim := { program := "ytpcilhakedhkaaa", sum := "e6de8e245d89d4f72d3028bee6e61b0c8893fe4163f4c057e8e743b0ba2b89f1", func := "loop.example/g01198/laws.FnExactTwoBands", spec := "fnExactTwoBands", unfollowed := true, recurses := true, apart := false, narrowed := true }
def FnExactTwoBandsUptoSaid : Prop := fnExactTwoBandsUptoRow.holds Try.pinned (OpenSpec.upto fnExactTwoBandsSpec)

/-- 'laws.FnExactJoinBands', WHERE WHAT IT READS IS OF BULK AT MOST 1048576: true; the input reads as it did. -/
def fnExactJoinBandsUptoRow : OpenClaim := { program := "ytpcilhakedhkaaa", sum := "e6de8e245d89d4f72d3028bee6e61b0c8893fe4163f4c057e8e743b0ba2b89f1", func := "loop.example/g01198/laws.FnExactJoinBands", spec := "fnExactJoinBands", unfollowed := true, recurses := true, apart := false, narrowed := true }
def FnExactJoinBandsUptoSaid : Prop := fnExactJoinBandsUptoRow.holds Try.pinned (OpenSpec.upto fnExactJoinBandsSpec)

/-- 'laws.FnExactHoldSamples', WHERE WHAT IT READS IS OF BULK AT MOST 1048576: true; the input reads as it did. -/
def fnExactHoldSamplesUptoRow : OpenClaim := { program := "ytpcilhakedhkaaa", sum := "e6de8e245d89d4f72d3028bee6e61b0c8893fe4163f4c057e8e743b0ba2b89f1", func := "loop.example/g01198/laws.FnExactHoldSamples", spec := "fnExactHoldSamples", unfollowed := true, recurses := true, apart := false, narrowed := true }
def FnExactHoldSamplesUptoSaid : Prop := fnExactHoldSamplesUptoRow.holds Try.pinned (OpenSpec.upto fnExactHoldSamplesSpec)

/-- 'laws.FnExactNearSamples', WHERE WHAT IT READS IS OF BULK AT MOST 1048576: true; the input reads as it did. -/
def fnExactNearSamplesUptoRow : OpenClaim := { program := "ytpcilhakedhkaaa", sum := "e6de8e245d89d4f72d3028bee6e61b0c8893fe4163f4c057e8e743b0ba2b89f1", func := "loop.example/g01198/laws.FnExactNearSamples", spec := "fnExactNearSamples", unfollowed := true, recurses := true, apart := false, narrowed := true }
def FnExactNearSamplesUptoSaid : Prop := fnExactNearSamplesUptoRow.holds Try.pinned (OpenSpec.upto fnExactNearSamplesSpec)

/-- 'laws.FnExactLineSamples', WHERE WHAT IT READS IS OF BULK AT MOST 1048576: true; the input reads as it did. -/
def fnExactLineSamplesUptoRow : OpenClaim := { program := "ytpcilhakedhkaaa", sum := "e6de8e245d89d4f72d3028bee6e61b0c8893fe4163f4c057e8e743b0ba2b89f1", func := "loop.example/g01198/laws.FnExactLineSamples", spec := "fnExactLineSamples", unfollowed := true, recurses := true, apart := false, narrowed := true }
def FnExactLineSamplesUptoSaid : Prop := fnExactLineSamplesUptoRow.holds Try.pinned (OpenSpec.upto fnExactLineSamplesSpec)

/-- 'laws.FnExactProductsByPhases', WHERE WHAT IT READS IS OF BULK AT MOST 1048576: true; the input reads as it did. -/
def fnExactProductsByPhasesUptoRow : OpenClaim := { program := "ytpcilhakedhkaaa", sum := "e6de8e245d89d4f72d3028bee6e61b0c8893fe4163f4c057e8e743b0ba2b89f1", func := "loop.example/g01198/laws.FnExactProductsByPhases", spec := "fnExactProductsByPhases", unfollowed := true, recurses := true, apart := false, narrowed := true }
def FnExactProductsByPhasesUptoSaid : Prop := fnExactProductsByPhasesUptoRow.holds Try.pinned (OpenSpec.upto fnExactProductsByPhasesSpec)

/-- 'laws.FnExactStuffZeros', WHERE WHAT IT READS IS OF BULK AT MOST 1048576: true; the input reads as it did. -/
def fnExactStuffZerosUptoRow : OpenClaim := { program := "ytpcilhakedhkaaa", sum := "e6de8e245d89d4f72d3028bee6e61b0c8893fe4163f4c057e8e743b0ba2b89f1", func := "loop.example/g01198/laws.FnExactStuffZeros", spec := "fnExactStuffZeros", unfollowed := true, recurses := true, apart := false, narrowed := true }
def FnExactStuffZerosUptoSaid : Prop := fnExactStuffZerosUptoRow.holds Try.pinned (OpenSpec.upto fnExactStuffZerosSpec)

/-- 'laws.FnExactDropSamples', WHERE WHAT IT READS IS OF BULK AT MOST 1048576: true; the input reads as it did. -/
def fnExactDropSamplesUptoRow : OpenClaim := { program := "ytpcilhakedhkaaa", sum := "e6de8e245d89d4f72d3028bee6e61b0c8893fe4163f4c057e8e743b0ba2b89f1", func := "loop.example/g01198/laws.FnExactDropSamples", spec := "fnExactDropSamples", unfollowed := true, recurses := true, apart := false, narrowed := true }
def FnExactDropSamplesUptoSaid : Prop := fnExactDropSamplesUptoRow.holds Try.pinned (OpenSpec.upto fnExactDropSamplesSpec)

/-- 'laws.FnExactCombGain', WHERE WHAT IT READS IS OF BULK AT MOST 1048576: true; the input reads as it did. -/
def fnExactCombGainUptoRow : OpenClaim := { program := "ytpcilhakedhkaaa", sum := "e6de8e245d89d4f72d3028bee6e61b0c8893fe4163f4c057e8e743b0ba2b89f1", func := "loop.example/g01198/laws.FnExactCombGain", spec := "fnExactCombGain", apart := false, narrowed := true }
def FnExactCombGainUptoSaid : Prop := fnExactCombGainUptoRow.holds Try.pinned (OpenSpec.upto fnExactCombGainSpec)

/-- 'laws.FnExactBitsForComb', WHERE WHAT IT READS IS OF BULK AT MOST 1048576: true; the input reads as it did. -/
def fnExactBitsForCombUptoRow : OpenClaim := { program := "ytpcilhakedhkaaa", sum := "e6de8e245d89d4f72d3028bee6e61b0c8893fe4163f4c057e8e743b0ba2b89f1", func := "loop.example/g01198/laws.FnExactBitsForComb", spec := "fnExactBitsForComb", apart := false, narrowed := true }
def FnExactBitsForCombUptoSaid : Prop := fnExactBitsForCombUptoRow.holds Try.pinned (OpenSpec.upto fnExactBitsForCombSpec)

/-- 'laws.FnExactBoxAnswer', WHERE WHAT IT READS IS OF BULK AT MOST 1048576: true; the input reads as it did. -/
def fnExactBoxAnswerUptoRow : OpenClaim := { program := "ytpcilhakedhkaaa", sum := "e6de8e245d89d4f72d3028bee6e61b0c8893fe4163f4c057e8e743b0ba2b89f1", func := "loop.example/g01198/laws.FnExactBoxAnswer", spec := "fnExactBoxAnswer", apart := false, narrowed := true }
def FnExactBoxAnswerUptoSaid : Prop := fnExactBoxAnswerUptoRow.holds Try.pinned (OpenSpec.upto fnExactBoxAnswerSpec)

/-- 'laws.FnExactBoxDroop', WHERE WHAT IT READS IS OF BULK AT MOST 1048576: true; the input reads as it did. -/
def fnExactBoxDroopUptoRow : OpenClaim := { program := "ytpcilhakedhkaaa", sum := "e6de8e245d89d4f72d3028bee6e61b0c8893fe4163f4c057e8e743b0ba2b89f1", func := "loop.example/g01198/laws.FnExactBoxDroop", spec := "fnExactBoxDroop", apart := false, narrowed := true }
def FnExactBoxDroopUptoSaid : Prop := fnExactBoxDroopUptoRow.holds Try.pinned (OpenSpec.upto fnExactBoxDroopSpec)

end Rows
end Go.Proofs.Ytpcilhakedhkaaa

/-
  No cell of these rows narrows 'for every input' (looked for: loops, veiled, ifaces, maps, wideKeys, modest, calm, conditions, laid).
  DERIVED. THE GIVEN ROWS OF THIS SEAT. 10 by the template 'for every input the law returns true; each argument reads behind the call as it read before'; 0 by the template 'total and deterministic' (their statements: YtjknlfgphlopnaaTotals.lean).
  GIVEN WITH THE SEED: the statements are not yours to turn. If you find one false, say at which input.
  Laid BY PROGRAM, IN A SANDBOX (cutbox-rows.mjs): the forced cells as the released guide's own fill.sh prints them over the translation 56c121aa855aab92… (all of the seat's roots in one cut). By AI agents, Wed Nov 11 2026. No macro, syntax, notation, axiom, sorry.
-/
import Derived.Test.YtjknlfgphlopnaaChecked
import GoSem.Claim
import GoSem.ClaimJoined
import GoSem.ClaimMapViews
import Derived.JoinedTies
import Derived.KernelRfl
namespace Go.Proofs.Ytjknlfgphlopnaa
/- THE CELL 'sum', in the pinned program and in every row, IS THE sha256 OF THE DUMP (.gsa) THAT YtjknlfgphlopnaaProg.lean LOADS. Nothing in Lean hashes anything: it is a label: what it is worth is what the hold of that sum in a sandbox is worth. -/
noncomputable def Try.pinned : Pinned := { name := "ytjknlfgphlopnaa", sum := "56c121aa855aab925a3c0244d3767362bdcde36f21e07830b8da07ab373240b3", checked := Try.checked }
namespace Rows
def none {H : Type} : Left H := { results := [], args := [] }

/-- 'laws.FnExactCountFits': WHATEVER THE INPUT: true; the input reads as it did. -/
def fnExactCountFitsSpec : ChangeSpec := { name := "fnExactCountFits", fn := fun _ => fun
  | [d1, d2, d3] => { results := [.lit (.bool true)], args := [d1, d2, d3] }
  | _ => none }
def fnExactCountFitsRow : OpenClaim := { program := "ytjknlfgphlopnaa", sum := "56c121aa855aab925a3c0244d3767362bdcde36f21e07830b8da07ab373240b3", func := "loop.example/g01198/laws.FnExactCountFits", spec := "fnExactCountFits", unfollowed := true, recurses := true, plainKeys := false, apart := false }
def FnExactCountFitsSaid : Prop := fnExactCountFitsRow.holds Try.pinned (OpenSpec.ofChange fnExactCountFitsSpec)

/-- ITS FALSE NEIGHBOUR: 'it returns false'. Refute it at one input. -/
def fnExactCountFitsWrong : ChangeSpec := { name := "fnExactCountFits", fn := fun _ => fun
  | [d1, d2, d3] => { results := [.lit (.bool false)], args := [d1, d2, d3] }
  | _ => none }
def FnExactCountFitsWrongFalsely : Prop := fnExactCountFitsRow.holds Try.pinned (OpenSpec.ofChange fnExactCountFitsWrong)

/-- 'laws.FnExactCountPairFits': WHATEVER THE INPUT: true; the input reads as it did. -/
def fnExactCountPairFitsSpec : ChangeSpec := { name := "fnExactCountPairFits", fn := fun _ => fun
  | [d1, d2, d3, d4] => { results := [.lit (.bool true)], args := [d1, d2, d3, d4] }
  | _ => none }
def fnExactCountPairFitsRow : OpenClaim := { program := "ytjknlfgphlopnaa", sum := "56c121aa855aab925a3c0244d3767362bdcde36f21e07830b8da07ab373240b3", func := "loop.example/g01198/laws.FnExactCountPairFits", spec := "fnExactCountPairFits", unfollowed := true, recurses := true, plainKeys := false, apart := false }
def FnExactCountPairFitsSaid : Prop := fnExactCountPairFitsRow.holds Try.pinned (OpenSpec.ofChange fnExactCountPairFitsSpec)

/-- ITS FALSE NEIGHBOUR: 'it returns false'. Refute it at one input. -/
def fnExactCountPairFitsWrong : ChangeSpec := { name := "fnExactCountPairFits", fn := fun _ => fun
  | [d1, d2, d3, d4] => { results := [.lit (.bool false)], args := [d1, d2, d3, d4] }
  | _ => none }
def FnExactCountPairFitsWrongFalsely : Prop := fnExactCountPairFitsRow.holds Try.pinned (OpenSpec.ofChange fnExactCountPairFitsWrong)

/-- 'laws.FnExactRunSecond': WHATEVER THE INPUT: true; the input reads as it did. -/
def fnExactRunSecondSpec : ChangeSpec := { name := "fnExactRunSecond", fn := fun _ => fun
  | [d1, d2, d3, d4] => { results := [.lit (.bool true)], args := [d1, d2, d3, d4] }
  | _ => none }
def fnExactRunSecondRow : OpenClaim := { program := "ytjknlfgphlopnaa", sum := "56c121aa855aab925a3c0244d3767362bdcde36f21e07830b8da07ab373240b3", func := "loop.example/g01198/laws.FnExactRunSecond", spec := "fnExactRunSecond", unfollowed := true, recurses := true, plainKeys := false, apart := false }
def FnExactRunSecondSaid : Prop := fnExactRunSecondRow.holds Try.pinned (OpenSpec.ofChange fnExactRunSecondSpec)

/-- ITS FALSE NEIGHBOUR: 'it returns false'. Refute it at one input. -/
def fnExactRunSecondWrong : ChangeSpec := { name := "fnExactRunSecond", fn := fun _ => fun
  | [d1, d2, d3, d4] => { results := [.lit (.bool false)], args := [d1, d2, d3, d4] }
  | _ => none }
def FnExactRunSecondWrongFalsely : Prop := fnExactRunSecondRow.holds Try.pinned (OpenSpec.ofChange fnExactRunSecondWrong)

/-- 'laws.FnExactLeastBits': WHATEVER THE INPUT: true; the input reads as it did. -/
def fnExactLeastBitsSpec : ChangeSpec := { name := "fnExactLeastBits", fn := fun _ => fun
  | [d1, d2, d3] => { results := [.lit (.bool true)], args := [d1, d2, d3] }
  | _ => none }
def fnExactLeastBitsRow : OpenClaim := { program := "ytjknlfgphlopnaa", sum := "56c121aa855aab925a3c0244d3767362bdcde36f21e07830b8da07ab373240b3", func := "loop.example/g01198/laws.FnExactLeastBits", spec := "fnExactLeastBits", unfollowed := true, recurses := true, plainKeys := false, apart := false }
def FnExactLeastBitsSaid : Prop := fnExactLeastBitsRow.holds Try.pinned (OpenSpec.ofChange fnExactLeastBitsSpec)

/-- ITS FALSE NEIGHBOUR: 'it returns false'. Refute it at one input. -/
def fnExactLeastBitsWrong : ChangeSpec := { name := "fnExactLeastBits", fn := fun _ => fun
  | [d1, d2, d3] => { results := [.lit (.bool false)], args := [d1, d2, d3] }
  | _ => none }
def FnExactLeastBitsWrongFalsely : Prop := fnExactLeastBitsRow.holds Try.pinned (OpenSpec.ofChange fnExactLeastBitsWrong)

/-- 'laws.FnExactCyclesOfFirst': WHATEVER THE INPUT: true; the input reads as it did. -/
def fnExactCyclesOfFirstSpec : ChangeSpec := { name := "fnExactCyclesOfFirst", fn := fun _ => fun
  | [d1, d2] => { results := [.lit (.bool true)], args := [d1, d2] }
  | _ => none }
def fnExactCyclesOfFirstRow : OpenClaim := { program := "ytjknlfgphlopnaa", sum := "56c121aa855aab925a3c0244d3767362bdcde36f21e07830b8da07ab373240b3", func := "loop.example/g01198/laws.FnExactCyclesOfFirst", spec := "fnExactCyclesOfFirst", unfollowed := true, recurses := true, plainKeys := false, apart := false }
def FnExactCyclesOfFirstSaid : Prop := fnExactCyclesOfFirstRow.holds Try.pinned (OpenSpec.ofChange fnExactCyclesOfFirstSpec)

/-- ITS FALSE NEIGHBOUR: 'it returns false'. Refute it at one input. -/
def fnExactCyclesOfFirstWrong : ChangeSpec := { name := "fnExactCyclesOfFirst", fn := fun _ => fun
  | [d1, d2] => { results := [.lit (.bool false)], args := [d1, d2] }
  | _ => none }
def FnExactCyclesOfFirstWrongFalsely : Prop := fnExactCyclesOfFirstRow.holds Try.pinned (OpenSpec.ofChange fnExactCyclesOfFirstWrong)

/-- 'laws.FnExactDeadBand': WHATEVER THE INPUT: true; the input reads as it did. -/
def fnExactDeadBandSpec : ChangeSpec := { name := "fnExactDeadBand", fn := fun _ => fun
  | [d] => { results := [.lit (.bool true)], args := [d] }
  | _ => none }
def fnExactDeadBandRow : OpenClaim := { program := "ytjknlfgphlopnaa", sum := "56c121aa855aab925a3c0244d3767362bdcde36f21e07830b8da07ab373240b3", func := "loop.example/g01198/laws.FnExactDeadBand", spec := "fnExactDeadBand", unfollowed := true, recurses := true, plainKeys := false, apart := false }
def FnExactDeadBandSaid : Prop := fnExactDeadBandRow.holds Try.pinned (OpenSpec.ofChange fnExactDeadBandSpec)

/-- ITS FALSE NEIGHBOUR: 'it returns false'. Refute it at one input. -/
def fnExactDeadBandWrong : ChangeSpec := { name := "fnExactDeadBand", fn := fun _ => fun
  | [d] => { results := [.lit (.bool false)], args := [d] }
  | _ => none }
def FnExactDeadBandWrongFalsely : Prop := fnExactDeadBandRow.holds Try.pinned (OpenSpec.ofChange fnExactDeadBandWrong)

/-- 'laws.FnExactIsTurnable': WHATEVER THE INPUT: true; the input reads as it did. -/
def fnExactIsTurnableSpec : ChangeSpec := { name := "fnExactIsTurnable", fn := fun _ => fun
  | [d1, d2] => { results := [.lit (.bool true)], args := [d1, d2] }
  | _ => none }
def fnExactIsTurnableRow : OpenClaim := { program := "ytjknlfgphlopnaa", sum := "56c121aa855aab925a3c0244d3767362bdcde36f21e07830b8da07ab373240b3", func := "loop.example/g01198/laws.FnExactIsTurnable", spec := "fnExactIsTurnable", unfollowed := true, recurses := true, plainKeys := false, apart := false }
def FnExactIsTurnableSaid : Prop := fnExactIsTurnableRow.holds Try.pinned (OpenSpec.ofChange fnExactIsTurnableSpec)

/-- ITS FALSE NEIGHBOUR: 'it returns false'. Refute it at one input. -/
def fnExactIsTurnableWrong : ChangeSpec := { name := "fnExactIsTurnable", fn := fun _ => fun
  | [d1, d2] => { results := [.lit (.bool false)], args := [d1, d2] }
  | _ => none }
def FnExactIsTurnableWrongFalsely : Prop := fnExactIsTurnableRow.holds Try.pinned (OpenSpec.ofChange fnExactIsTurnableWrong)

/-- 'laws.FnExactCycleOfPair': WHATEVER THE INPUT: true; the input reads as it did. -/
def fnExactCycleOfPairSpec : ChangeSpec := { name := "fnExactCycleOfPair", fn := fun _ => fun
  | [d1, d2, d3, d4] => { results := [.lit (.bool true)], args := [d1, d2, d3, d4] }
  | _ => none }
def fnExactCycleOfPairRow : OpenClaim := { program := "ytjknlfgphlopnaa", sum := "56c121aa855aab925a3c0244d3767362bdcde36f21e07830b8da07ab373240b3", func := "loop.example/g01198/laws.FnExactCycleOfPair", spec := "fnExactCycleOfPair", plainKeys := false, apart := false }
def FnExactCycleOfPairSaid : Prop := fnExactCycleOfPairRow.holds Try.pinned (OpenSpec.ofChange fnExactCycleOfPairSpec)

/-- ITS FALSE NEIGHBOUR: 'it returns false'. Refute it at one input. -/
def fnExactCycleOfPairWrong : ChangeSpec := { name := "fnExactCycleOfPair", fn := fun _ => fun
  | [d1, d2, d3, d4] => { results := [.lit (.bool false)], args := [d1, d2, d3, d4] }
  | _ => none }
def FnExactCycleOfPairWrongFalsely : Prop := fnExactCycleOfPairRow.holds Try.pinned (OpenSpec.ofChange fnExactCycleOfPairWrong)

/-- 'laws.FnExactCountLasting': WHATEVER THE INPUT: true; the input reads as it did. -/
def fnExactCountLastingSpec : ChangeSpec := { name := "fnExactCountLasting", fn := fun _ => fun
  | [d1, d2] => { results := [.lit (.bool true)], args := [d1, d2] }
  | _ => none }
def fnExactCountLastingRow : OpenClaim := { program := "ytjknlfgphlopnaa", sum := "56c121aa855aab925a3c0244d3767362bdcde36f21e07830b8da07ab373240b3", func := "loop.example/g01198/laws.FnExactCountLasting", spec := "fnExactCountLasting", unfollowed := true, recurses := true, plainKeys := false, apart := false }
def FnExactCountLastingSaid : Prop := fnExactCountLastingRow.holds Try.pinned (OpenSpec.ofChange fnExactCountLastingSpec)

/-- ITS FALSE NEIGHBOUR: 'it returns false'. Refute it at one input. -/
def fnExactCountLastingWrong : ChangeSpec := { name := "fnExactCountLasting", fn := fun _ => fun
  | [d1, d2] => { results := [.lit (.bool false)], args := [d1, d2] }
  | _ => none }
def FnExactCountLastingWrongFalsely : Prop := fnExactCountLastingRow.holds Try.pinned (OpenSpec.ofChange fnExactCountLastingWrong)

/-- 'laws.FnExactPairBand': WHATEVER THE INPUT: true; the input reads as it did. -/
def fnExactPairBandSpec : ChangeSpec := { name := "fnExactPairBand", fn := fun _ => fun
  | [d] => { results := [.lit (.bool true)], args := [d] }
  | _ => none }
def fnExactPairBandRow : OpenClaim := { program := "ytjknlfgphlopnaa", sum := "56c121aa855aab925a3c0244d3767362bdcde36f21e07830b8da07ab373240b3", func := "loop.example/g01198/laws.FnExactPairBand", spec := "fnExactPairBand", unfollowed := true, recurses := true, plainKeys := false, apart := false }
def FnExactPairBandSaid : Prop := fnExactPairBandRow.holds Try.pinned (OpenSpec.ofChange fnExactPairBandSpec)

/-- ITS FALSE NEIGHBOUR: 'it returns false'. Refute it at one input. -/
def fnExactPairBandWrong : ChangeSpec := { name := "fnExactPairBand", fn := fun _ => fun
  | [d] => { results := [.lit (.bool false)], args := [d] }
  | _ => none }
def FnExactPairBandWrongFalsely : Prop := fnExactPairBandRow.holds Try.pinned (OpenSpec.ofChange fnExactPairBandWrong)

/- THE SECOND FORM. 'bulk': how many values and letters a reading holds, each counted each time it is reached (what is shared counts as often as it is met; a slice's spare places count too). A statement '..UptoSaid' is the law's where the arguments, and the package variables that the reading takes, are together of bulk at most 1048576: NARROWER than '..Said'. Prove '..Said' where nothing that the law and all that it calls make is longer than what came in: it says more and counts as full. Else prove '..UptoSaid'. A law counts once. -/
mutual
def uptoBulk {H : Type} : DataW H → Nat
  | .lit (.string bytes) => bytes.length + 1
  | .lit _ => 1
  | .nil => 1
  | .ptr d => uptoBulk d + 1
  | .slice elems spare => uptoBulkAll elems + uptoBulkAll spare + 1
  | .agg parts => uptoBulkAll parts + 1
  | .iface _ d => uptoBulk d + 1
  | .map entries => uptoBulkEntries entries + 1
  | .held _ => 1
def uptoBulkAll {H : Type} : List (DataW H) → Nat
  | [] => 0
  | d :: r => uptoBulk d + uptoBulkAll r
def uptoBulkEntries {H : Type} : List (Lit × DataW H) → Nat
  | [] => 0
  | x :: r => uptoBulkEntry x + uptoBulkEntries r
def uptoBulkEntry {H : Type} : Lit × DataW H → Nat
  | (.string bytes, d) => bytes.length + uptoBulk d + 1
  | (_, d) => uptoBulk d + 1
 end
def uptoSmall : (H : Type) → List (DataW H) → Bool := fun _ ds => decide (uptoBulkAll ds ≤ 1048576)
def OpenSpec.upto (s : _root_.Go.ChangeSpec) : _root_.Go.OpenSpec := { _root_.Go.OpenSpec.ofChange s with cond := some uptoSmall }

/-- 'laws.FnExactCountFits', WHERE WHAT IT READS IS OF BULK AT MOST 1048576: true; the input reads as it did. -/
def fnExactCountFitsUptoRow : OpenClaim := { program := "ytjknlfgphlopnaa", sum := "56c121aa855aab925a3c0244d3767362bdcde36f21e07830b8da07ab373240b3", func := "loop.example/g01198/laws.FnExactCountFits", spec := "fnExactCountFits", unfollowed := true, recurses := true, plainKeys := false, apart := false, narrowed := true }
def FnExactCountFitsUptoSaid : Prop := fnExactCountFitsUptoRow.holds Try.pinned (OpenSpec.upto fnExactCountFitsSpec)

/-- 'laws.FnExactCountPairFits', WHERE WHAT IT READS IS OF BULK AT MOST 1048576: true; the input reads as it did. -/
def fnExactCountPairFitsUptoRow : OpenClaim := { program := "ytjknlfgphlopnaa", sum := "56c121aa855aab925a3c0244d3767362bdcde36f21e07830b8da07ab373240b3", func := "loop.example/g01198/laws.FnExactCountPairFits", spec := "fnExactCountPairFits", unfollowed := true, recurses := true, plainKeys := false, apart := false, narrowed := true }
def FnExactCountPairFitsUptoSaid : Prop := fnExactCountPairFitsUptoRow.holds Try.pinned (OpenSpec.upto fnExactCountPairFitsSpec)

/-- 'laws.FnExactRunSecond', WHERE WHAT IT READS IS OF BULK AT MOST 1048576: true; the input reads as it did. -/
def fnExactRunSecondUptoRow : OpenClaim := { program := "ytjknlfgphlopnaa", sum := "56c121aa855aab925a3c0244d3767362bdcde36f21e07830b8da07ab373240b3", func := "loop.example/g01198/laws.FnExactRunSecond", spec := "fnExactRunSecond", unfollowed := true, recurses := true, plainKeys := false, apart := false, narrowed := true }
def FnExactRunSecondUptoSaid : Prop := fnExactRunSecondUptoRow.holds Try.pinned (OpenSpec.upto fnExactRunSecondSpec)

/-- 'laws.FnExactLeastBits', WHERE WHAT IT READS IS OF BULK AT MOST 1048576: true; the input reads as it did. -/
def fnExactLeastBitsUptoRow : OpenClaim := { program := "ytjknlfgphlopnaa", sum := "56c121aa855aab925a3c0244d3767362bdcde36f21e07830b8da07ab373240b3", func := "loop.example/g01198/laws.FnExactLeastBits", spec := "fnExactLeastBits", unfollowed := true, recurses := true, plainKeys := false, apart := false, narrowed := true }
def FnExactLeastBitsUptoSaid : Prop := fnExactLeastBitsUptoRow.holds Try.pinned (OpenSpec.upto fnExactLeastBitsSpec)

/-- 'laws.FnExactCyclesOfFirst', WHERE WHAT IT READS IS OF BULK AT MOST 1048576: true; the input reads as it did. -/
def fnExactCyclesOfFirstUptoRow : OpenClaim := { program := "ytjknlfgphlopnaa", sum := "56c121aa855aab925a3c0244d3767362bdcde36f21e07830b8da07ab373240b3", func := "loop.example/g01198/laws.FnExactCyclesOfFirst", spec := "fnExactCyclesOfFirst", unfollowed := true, recurses := true, plainKeys := false, apart := false, narrowed := true }
def FnExactCyclesOfFirstUptoSaid : Prop := fnExactCyclesOfFirstUptoRow.holds Try.pinned (OpenSpec.upto fnExactCyclesOfFirstSpec)

/-- 'laws.FnExactDeadBand', WHERE WHAT IT READS IS OF BULK AT MOST 1048576: true; the input reads as it did. -/
def fnExactDeadBandUptoRow : OpenClaim := { program := "ytjknlfgphlopnaa", sum := "56c121aa855aab925a3c0244d3767362bdcde36f21e07830b8da07ab373240b3", func := "loop.example/g01198/laws.FnExactDeadBand", spec := "fnExactDeadBand", unfollowed := true, recurses := true, plainKeys := false, apart := false, narrowed := true }
def FnExactDeadBandUptoSaid : Prop := fnExactDeadBandUptoRow.holds Try.pinned (OpenSpec.upto fnExactDeadBandSpec)

/-- 'laws.FnExactIsTurnable', WHERE WHAT IT READS IS OF BULK AT MOST 1048576: true; the input reads as it did. -/
def fnExactIsTurnableUptoRow : OpenClaim := { program := "ytjknlfgphlopnaa", sum := "56c121aa855aab925a3c0244d3767362bdcde36f21e07830b8da07ab373240b3", func := "loop.example/g01198/laws.FnExactIsTurnable", spec := "fnExactIsTurnable", unfollowed := true, recurses := true, plainKeys := false, apart := false, narrowed := true }
def FnExactIsTurnableUptoSaid : Prop := fnExactIsTurnableUptoRow.holds Try.pinned (OpenSpec.upto fnExactIsTurnableSpec)

/-- 'laws.FnExactCycleOfPair', WHERE WHAT IT READS IS OF BULK AT MOST 1048576: true; the input reads as it did. -/
def fnExactCycleOfPairUptoRow : OpenClaim := { program := "ytjknlfgphlopnaa", sum := "56c121aa855aab925a3c0244d3767362bdcde36f21e07830b8da07ab373240b3", func := "loop.example/g01198/laws.FnExactCycleOfPair", spec := "fnExactCycleOfPair", plainKeys := false, apart := false, narrowed := true }
def FnExactCycleOfPairUptoSaid : Prop := fnExactCycleOfPairUptoRow.holds Try.pinned (OpenSpec.upto fnExactCycleOfPairSpec)

/-- 'laws.FnExactCountLasting', WHERE WHAT IT READS IS OF BULK AT MOST 1048576: true; the input reads as it did. -/
def fnExactCountLastingUptoRow : OpenClaim := { program := "ytjknlfgphlopnaa", sum := "56c121aa855aab925a3c0244d3767362bdcde36f21e07830b8da07ab373240b3", func := "loop.example/g01198/laws.FnExactCountLasting", spec := "fnExactCountLasting", unfollowed := true, recurses := true, plainKeys := false, apart := false, narrowed := true }
def FnExactCountLastingUptoSaid : Prop := fnExactCountLastingUptoRow.holds Try.pinned (OpenSpec.upto fnExactCountLastingSpec)

/-- 'laws.FnExactPairBand', WHERE WHAT IT READS IS OF BULK AT MOST 1048576: true; the input reads as it did. -/
def fnExactPairBandUptoRow : OpenClaim := { program := "ytjknlfgphlopnaa", sum := "56c121aa855aab925a3c0244d3767362bdcde36f21e07830b8da07ab373240b3", func := "loop.example/g01198/laws.FnExactPairBand", spec := "fnExactPairBand", unfollowed := true, recurses := true, plainKeys := false, apart := false, narrowed := true }
def FnExactPairBandUptoSaid : Prop := fnExactPairBandUptoRow.holds Try.pinned (OpenSpec.upto fnExactPairBandSpec)

end Rows
end Go.Proofs.Ytjknlfgphlopnaa

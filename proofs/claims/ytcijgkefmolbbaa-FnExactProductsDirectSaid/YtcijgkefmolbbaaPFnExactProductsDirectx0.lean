-- Written by this session's pp.py over the kit's print.
import Derived.Test.YtcijgkefmolbbaaProg
import Derived.Below
import Derived.Deep.Draws
import Derived.Deep.AppendLies
import Derived.Maps.AppendAt
import Derived.OwnWalk
import Derived.Laws.BytesArg
import Derived.Laws.MakeOwn
import Derived.Laws.OwnMore
import Derived.Deep.OwnRows
import Derived.Tactics
import Derived.Lib.ConvBytes
import Derived.Laws.Slices
import Derived.WalkKit
import Derived.KernelRfl
import Derived.RowKit3
import Derived.Deep.LoopGhost
import Derived.Deep.QuietTactic
import Derived.BigQuiet
import Derived.WideLaws
import Derived.Deep.DeepCutAuto
import Derived.Deep.CutBlock
import Derived.Deep.RegionHeld3
import Derived.Laws.Rows
import Derived.Lib.AppendStr
import Derived.ArgAppend
import Derived.Laws.IdiomCopy
import Derived.OrdersHeld
import Derived.Laws.BitsLemmas
import Derived.RowKit
import Derived.Shelf.Abstract
import Derived.Test.YtcijgkefmolbbaaWWords
import Derived.Test.YtcijgkefmolbbaaWLast
import Derived.Test.YtcijgkefmolbbaaWTab
import Derived.Test.YtcijgkefmolbbaaWFour
import Derived.Test.YtcijgkefmolbbaaWQPut
import Derived.Test.YtcijgkefmolbbaaWApart
import Derived.Test.YtcijgkefmolbbaaWArr
import Derived.Test.YtcijgkefmolbbaaWZeros
import Derived.Test.YtcijgkefmolbbaaWFoot
import Derived.Test.YtcijgkefmolbbaaWKept
import Derived.Test.YtcijgkefmolbbaaWShare
import Derived.Test.YtcijgkefmolbbaaWN
import Derived.Test.YtcijgkefmolbbaaWFootNe
import Derived.Test.YtcijgkefmolbbaaWAt
import Derived.Test.YtcijgkefmolbbaaWEqStruct
import Derived.Test.YtcijgkefmolbbaaWRepsOne
import Derived.Test.YtcijgkefmolbbaaWInv
import Derived.Test.YtcijgkefmolbbaaWInvWords
import Derived.Test.YtcijgkefmolbbaaWGuard
import Derived.Test.YtcijgkefmolbbaaWNEv
import Derived.Test.YtcijgkefmolbbaaWMore
namespace Go.Proofs.Ytcijgkefmolbbaa.PFnExactProductsDirect
open Go.RowKit Go.Proofs.YtcijgkefmolbbaaW.PrintWords Go.Proofs.YtcijgkefmolbbaaW.PrintLast Go.Proofs.YtcijgkefmolbbaaW.PrintMore
attribute [local go_sem] max2_int min2_int max_two min_two max_three min_three max_four min_four   -- for this text's walks alone
set_option linter.unusedVariables false
set_option linter.unusedSimpArgs false



def errW : Option Int → Value
  | none => .nilIface
  | some c => .iface 0 (.int .i64 c)
theorem errW_none : errW none = .nilIface := rfl
theorem errW_some (c : Int) : errW (some c) = .iface 0 (.int .i64 c) := rfl

theorem info3 : (Try.prog.info? 3).map (fun i => (i.zero, i.size, i.bytes)) = some (some (.int .i64 0), 1, 8) := by kernel_rfl
-- the values' own types

end Go.Proofs.Ytcijgkefmolbbaa.PFnExactProductsDirect

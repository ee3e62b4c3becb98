-- Written by this session's pp.py over the kit's print.
import Derived.Test.YtlmlehfgdmhbmaaProg
import Derived.Below
import Derived.Deep.Draws
import Derived.Deep.AppendLies
import Derived.Maps.AppendAt
import Derived.OwnWalk
import Derived.Laws.BytesArg
import Derived.Laws.MakeOwn
import Derived.Laws.OwnMore
import Derived.Deep.OwnRows
import Derived.Tactics
import Derived.Lib.ConvBytes
import Derived.Laws.Slices
import Derived.WalkKit
import Derived.KernelRfl
import Derived.RowKit3
import Derived.Deep.LoopGhost
import Derived.Deep.QuietTactic
import Derived.BigQuiet
import Derived.WideLaws
import Derived.Deep.DeepCutAuto
import Derived.Deep.CutBlock
import Derived.Deep.RegionHeld3
import Derived.Laws.Rows
import Derived.Lib.AppendStr
import Derived.ArgAppend
import Derived.Laws.IdiomCopy
import Derived.OrdersHeld
import Derived.Laws.BitsLemmas
import Derived.RowKit
import Derived.Shelf.Abstract
import Derived.Laws.CopyOwn
import Derived.Lib.SliceRun
import Derived.Lib.Walk
import Derived.Test.YtlmlehfgdmhbmaaWWords
import Derived.Test.YtlmlehfgdmhbmaaWLast
import Derived.Test.YtlmlehfgdmhbmaaWTab
import Derived.Test.YtlmlehfgdmhbmaaWFour
import Derived.Test.YtlmlehfgdmhbmaaWQPut
import Derived.Test.YtlmlehfgdmhbmaaWApart
import Derived.Test.YtlmlehfgdmhbmaaWArr
import Derived.Test.YtlmlehfgdmhbmaaWZeros
import Derived.Test.YtlmlehfgdmhbmaaWFoot
import Derived.Test.YtlmlehfgdmhbmaaWKept
import Derived.Test.YtlmlehfgdmhbmaaWShare
import Derived.Test.YtlmlehfgdmhbmaaWN
import Derived.Test.YtlmlehfgdmhbmaaWFootNe
import Derived.Test.YtlmlehfgdmhbmaaWAt
import Derived.Test.YtlmlehfgdmhbmaaWEqStruct
import Derived.Test.YtlmlehfgdmhbmaaWRepsOne
import Derived.Test.YtlmlehfgdmhbmaaWInv
import Derived.Test.YtlmlehfgdmhbmaaWInvWords
import Derived.Test.YtlmlehfgdmhbmaaWGuard
import Derived.Test.YtlmlehfgdmhbmaaWNEv
import Derived.Test.YtlmlehfgdmhbmaaWMore
namespace Go.Proofs.Ytlmlehfgdmhbmaa.PFnConstantsModulated
open Go.RowKit Go.Proofs.YtlmlehfgdmhbmaaW.PrintWords Go.Proofs.YtlmlehfgdmhbmaaW.PrintLast Go.Proofs.YtlmlehfgdmhbmaaW.PrintMore
attribute [local go_sem] max2_int min2_int max_two min_two max_three min_three max_four min_four   -- for this text's walks alone
set_option linter.unusedVariables false
set_option linter.unusedSimpArgs false



def errW : Option Int → Value
  | none => .nilIface
  | some c => .iface 0 (.int .i64 c)
theorem errW_none : errW none = .nilIface := rfl
theorem errW_some (c : Int) : errW (some c) = .iface 0 (.int .i64 c) := rfl

theorem info3 : (Try.prog.info? 3).map (fun i => (i.zero, i.size, i.bytes)) = some (some (.int .i64 0), 1, 8) := by kernel_rfl
-- the values' own types

end Go.Proofs.Ytlmlehfgdmhbmaa.PFnConstantsModulated

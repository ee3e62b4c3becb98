-- Written by this session's pp.py over the kit's print.
import Derived.Test.YtimpnpaimjgdgaaProg
import Derived.Below
import Derived.Deep.Draws
import Derived.Deep.AppendLies
import Derived.Maps.AppendAt
import Derived.OwnWalk
import Derived.Laws.BytesArg
import Derived.Laws.MakeOwn
import Derived.Laws.OwnMore
import Derived.Deep.OwnRows
import Derived.Tactics
import Derived.Lib.ConvBytes
import Derived.Laws.Slices
import Derived.WalkKit
import Derived.KernelRfl
import Derived.RowKit3
import Derived.Deep.LoopGhost
import Derived.Deep.QuietTactic
import Derived.BigQuiet
import Derived.WideLaws
import Derived.Deep.DeepCutAuto
import Derived.Deep.CutBlock
import Derived.Deep.RegionHeld3
import Derived.Laws.Rows
import Derived.Lib.AppendStr
import Derived.ArgAppend
import Derived.Laws.IdiomCopy
import Derived.OrdersHeld
import Derived.Laws.BitsLemmas
import Derived.RowKit
import Derived.Shelf.Abstract
import Derived.Laws.CopyOwn
import Derived.Test.YtimpnpaimjgdgaaWWords
import Derived.Test.YtimpnpaimjgdgaaWLast
import Derived.Test.YtimpnpaimjgdgaaWTab
import Derived.Test.YtimpnpaimjgdgaaWFour
import Derived.Test.YtimpnpaimjgdgaaWQPut
import Derived.Test.YtimpnpaimjgdgaaWApart
import Derived.Test.YtimpnpaimjgdgaaWArr
import Derived.Test.YtimpnpaimjgdgaaWZeros
import Derived.Test.YtimpnpaimjgdgaaWFoot
import Derived.Test.YtimpnpaimjgdgaaWKept
import Derived.Test.YtimpnpaimjgdgaaWShare
import Derived.Test.YtimpnpaimjgdgaaWN
import Derived.Test.YtimpnpaimjgdgaaWFootNe
import Derived.Test.YtimpnpaimjgdgaaWAt
import Derived.Test.YtimpnpaimjgdgaaWEqStruct
import Derived.Test.YtimpnpaimjgdgaaWRepsOne
import Derived.Test.YtimpnpaimjgdgaaWInv
import Derived.Test.YtimpnpaimjgdgaaWInvWords
import Derived.Test.YtimpnpaimjgdgaaWGuard
import Derived.Test.YtimpnpaimjgdgaaWNEv
import Derived.Test.YtimpnpaimjgdgaaWMore
namespace Go.Proofs.Ytimpnpaimjgdgaa.PFnExactExactComb
open Go.RowKit Go.Proofs.YtimpnpaimjgdgaaW.PrintWords Go.Proofs.YtimpnpaimjgdgaaW.PrintLast Go.Proofs.YtimpnpaimjgdgaaW.PrintMore
attribute [local go_sem] max2_int min2_int max_two min_two max_three min_three max_four min_four   -- for this text's walks alone
set_option linter.unusedVariables false
set_option linter.unusedSimpArgs false



def errW : Option Int → Value
  | none => .nilIface
  | some c => .iface 0 (.int .i64 c)
theorem errW_none : errW none = .nilIface := rfl
theorem errW_some (c : Int) : errW (some c) = .iface 0 (.int .i64 c) := rfl

theorem info3 : (Try.prog.info? 3).map (fun i => (i.zero, i.size, i.bytes)) = some (some (.int .i64 0), 1, 8) := by kernel_rfl
-- the values' own types

end Go.Proofs.Ytimpnpaimjgdgaa.PFnExactExactComb

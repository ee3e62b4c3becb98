-- Written by this session's pp.py over the kit's print.
import Derived.Test.YtmhmljodeenkmaaProg
import Derived.Below
import Derived.Deep.Draws
import Derived.Deep.AppendLies
import Derived.Maps.AppendAt
import Derived.OwnWalk
import Derived.Laws.BytesArg
import Derived.Laws.MakeOwn
import Derived.Laws.OwnMore
import Derived.Deep.OwnRows
import Derived.Tactics
import Derived.Lib.ConvBytes
import Derived.Laws.Slices
import Derived.WalkKit
import Derived.KernelRfl
import Derived.RowKit3
import Derived.Deep.LoopGhost
import Derived.Deep.QuietTactic
import Derived.BigQuiet
import Derived.WideLaws
import Derived.Deep.DeepCutAuto
import Derived.Deep.CutBlock
import Derived.Deep.RegionHeld3
import Derived.Laws.Rows
import Derived.Lib.AppendStr
import Derived.ArgAppend
import Derived.Laws.IdiomCopy
import Derived.OrdersHeld
import Derived.Laws.BitsLemmas
import Derived.RowKit
import Derived.Shelf.Abstract
import Derived.Laws.CopyOwn
import Derived.Test.YtmhmljodeenkmaaWWords
import Derived.Test.YtmhmljodeenkmaaWLast
import Derived.Test.YtmhmljodeenkmaaWTab
import Derived.Test.YtmhmljodeenkmaaWFour
import Derived.Test.YtmhmljodeenkmaaWQPut
import Derived.Test.YtmhmljodeenkmaaWApart
import Derived.Test.YtmhmljodeenkmaaWArr
import Derived.Test.YtmhmljodeenkmaaWZeros
import Derived.Test.YtmhmljodeenkmaaWFoot
import Derived.Test.YtmhmljodeenkmaaWKept
import Derived.Test.YtmhmljodeenkmaaWShare
import Derived.Test.YtmhmljodeenkmaaWN
import Derived.Test.YtmhmljodeenkmaaWFootNe
import Derived.Test.YtmhmljodeenkmaaWAt
import Derived.Test.YtmhmljodeenkmaaWEqStruct
import Derived.Test.YtmhmljodeenkmaaWRepsOne
import Derived.Test.YtmhmljodeenkmaaWInv
import Derived.Test.YtmhmljodeenkmaaWInvWords
import Derived.Test.YtmhmljodeenkmaaWGuard
import Derived.Test.YtmhmljodeenkmaaWNEv
import Derived.Test.YtmhmljodeenkmaaWMore
namespace Go.Proofs.Ytmhmljodeenkmaa.PFnExactConstantBits
open Go.RowKit Go.Proofs.YtmhmljodeenkmaaW.PrintWords Go.Proofs.YtmhmljodeenkmaaW.PrintLast Go.Proofs.YtmhmljodeenkmaaW.PrintMore
attribute [local go_sem] max2_int min2_int max_two min_two max_three min_three max_four min_four   -- for this text's walks alone
set_option linter.unusedVariables false
set_option linter.unusedSimpArgs false



def errW : Option Int → Value
  | none => .nilIface
  | some c => .iface 0 (.int .i64 c)
theorem errW_none : errW none = .nilIface := rfl
theorem errW_some (c : Int) : errW (some c) = .iface 0 (.int .i64 c) := rfl

theorem info3 : (Try.prog.info? 3).map (fun i => (i.zero, i.size, i.bytes)) = some (some (.int .i64 0), 1, 8) := by kernel_rfl
-- the values' own types

end Go.Proofs.Ytmhmljodeenkmaa.PFnExactConstantBits

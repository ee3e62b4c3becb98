-- Written by this session's pp.py over the kit's print.
import Derived.Test.YtfmjpojbgfbcaaaProg
import Derived.Below
import Derived.Deep.Draws
import Derived.Deep.AppendLies
import Derived.Maps.AppendAt
import Derived.OwnWalk
import Derived.Laws.BytesArg
import Derived.Laws.MakeOwn
import Derived.Laws.OwnMore
import Derived.Deep.OwnRows
import Derived.Tactics
import Derived.Lib.ConvBytes
import Derived.Laws.Slices
import Derived.WalkKit
import Derived.KernelRfl
import Derived.RowKit3
import Derived.Deep.LoopGhost
import Derived.Deep.QuietTactic
import Derived.BigQuiet
import Derived.WideLaws
import Derived.Deep.DeepCutAuto
import Derived.Deep.CutBlock
import Derived.Deep.RegionHeld3
import Derived.Laws.Rows
import Derived.Lib.AppendStr
import Derived.ArgAppend
import Derived.Laws.IdiomCopy
import Derived.OrdersHeld
import Derived.Laws.BitsLemmas
import Derived.RowKit
import Derived.Shelf.Abstract
import Derived.Laws.CopyOwn
import Derived.Lib.SliceRun
import Derived.Lib.Walk
import Derived.Test.YtfmjpojbgfbcaaaWWords
import Derived.Test.YtfmjpojbgfbcaaaWLast
import Derived.Test.YtfmjpojbgfbcaaaWTab
import Derived.Test.YtfmjpojbgfbcaaaWFour
import Derived.Test.YtfmjpojbgfbcaaaWQPut
import Derived.Test.YtfmjpojbgfbcaaaWApart
import Derived.Test.YtfmjpojbgfbcaaaWArr
import Derived.Test.YtfmjpojbgfbcaaaWZeros
import Derived.Test.YtfmjpojbgfbcaaaWFoot
import Derived.Test.YtfmjpojbgfbcaaaWKept
import Derived.Test.YtfmjpojbgfbcaaaWShare
import Derived.Test.YtfmjpojbgfbcaaaWN
import Derived.Test.YtfmjpojbgfbcaaaWFootNe
import Derived.Test.YtfmjpojbgfbcaaaWAt
import Derived.Test.YtfmjpojbgfbcaaaWEqStruct
import Derived.Test.YtfmjpojbgfbcaaaWRepsOne
import Derived.Test.YtfmjpojbgfbcaaaWInv
import Derived.Test.YtfmjpojbgfbcaaaWInvWords
import Derived.Test.YtfmjpojbgfbcaaaWGuard
import Derived.Test.YtfmjpojbgfbcaaaWNEv
import Derived.Test.YtfmjpojbgfbcaaaWMore
namespace Go.Proofs.Ytfmjpojbgfbcaaa.PFnExactShapeSignal
open Go.RowKit Go.Proofs.YtfmjpojbgfbcaaaW.PrintWords Go.Proofs.YtfmjpojbgfbcaaaW.PrintLast Go.Proofs.YtfmjpojbgfbcaaaW.PrintMore
attribute [local go_sem] max2_int min2_int max_two min_two max_three min_three max_four min_four   -- for this text's walks alone
set_option linter.unusedVariables false
set_option linter.unusedSimpArgs false



def errW : Option Int → Value
  | none => .nilIface
  | some c => .iface 0 (.int .i64 c)
theorem errW_none : errW none = .nilIface := rfl
theorem errW_some (c : Int) : errW (some c) = .iface 0 (.int .i64 c) := rfl

theorem info3 : (Try.prog.info? 3).map (fun i => (i.zero, i.size, i.bytes)) = some (some (.int .i64 0), 1, 8) := by kernel_rfl
-- the values' own types

end Go.Proofs.Ytfmjpojbgfbcaaa.PFnExactShapeSignal

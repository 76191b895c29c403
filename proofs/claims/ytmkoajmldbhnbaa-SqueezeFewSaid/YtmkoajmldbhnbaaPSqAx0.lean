-- Written by wip/gen/gen.py of this session out of the seat's translation.
import Derived.Test.YtmkoajmldbhnbaaProg
import Derived.Below
import Derived.Deep.Draws
import Derived.Deep.AppendLies
import Derived.Maps.AppendAt
import Derived.OwnWalk
import Derived.Laws.BytesArg
import Derived.Laws.MakeOwn
import Derived.Laws.OwnMore
import Derived.Deep.OwnRows
import Derived.Tactics
import Derived.Lib.ConvBytes
import Derived.Laws.Slices
import Derived.WalkKit
import Derived.KernelRfl
import Derived.RowKit3
import Derived.Deep.LoopGhost
import Derived.Deep.QuietTactic
import Derived.BigQuiet
import Derived.WideLaws
import Derived.Deep.DeepCutAuto
import Derived.Deep.CutBlock
import Derived.Deep.RegionHeld3
import Derived.Laws.Rows
import Derived.Lib.AppendStr
import Derived.ArgAppend
import Derived.Laws.IdiomCopy
import Derived.OrdersHeld
import Derived.Laws.BitsLemmas
import Derived.RowKit
import Derived.Test.YtmkoajmldbhnbaaBuf
import Derived.Test.YtmkoajmldbhnbaaWWords
import Derived.Test.YtmkoajmldbhnbaaWLast
import Derived.Test.YtmkoajmldbhnbaaWTab
import Derived.Test.YtmkoajmldbhnbaaWFour
import Derived.Test.YtmkoajmldbhnbaaWQPut
import Derived.Test.YtmkoajmldbhnbaaWApart
import Derived.Test.YtmkoajmldbhnbaaWArr
import Derived.Test.YtmkoajmldbhnbaaWZeros
import Derived.Test.YtmkoajmldbhnbaaWFoot
import Derived.Test.YtmkoajmldbhnbaaWKept
import Derived.Test.YtmkoajmldbhnbaaWShare
import Derived.Test.YtmkoajmldbhnbaaWN
import Derived.Test.YtmkoajmldbhnbaaWFootNe
import Derived.Test.YtmkoajmldbhnbaaWAt
import Derived.Test.YtmkoajmldbhnbaaWEqStruct
import Derived.Test.YtmkoajmldbhnbaaWRepsOne
import Derived.Test.YtmkoajmldbhnbaaWInv
import Derived.Test.YtmkoajmldbhnbaaWInvWords
import Derived.Test.YtmkoajmldbhnbaaWGuard
import Derived.Test.YtmkoajmldbhnbaaWNEv
import Derived.Test.YtmkoajmldbhnbaaWMore
namespace Go.Proofs.Ytmkoajmldbhnbaa.PSqA
open Go.Proofs.Ytmkoajmldbhnbaa.Hand Go.RowKit Go.Proofs.YtmkoajmldbhnbaaW.PrintWords Go.Proofs.YtmkoajmldbhnbaaW.PrintLast Go.Proofs.YtmkoajmldbhnbaaW.PrintMore
attribute [local go_sem] max2_int min2_int max_two min_two max_three min_three max_four min_four   -- for this text's walks alone
set_option linter.unusedVariables false
set_option linter.unusedSimpArgs false



def errW : Option Int → Value
  | none => .nilIface
  | some c => .iface 0 (.int .i64 c)
theorem errW_none : errW none = .nilIface := rfl
theorem errW_some (c : Int) : errW (some c) = .iface 0 (.int .i64 c) := rfl

theorem info5 : (Try.prog.info? 5).map (fun i => (i.zero, i.size, i.bytes)) = some (some (.int .u8 0), 1, 1) := by kernel_rfl
-- the values' own types

end Go.Proofs.Ytmkoajmldbhnbaa.PSqA

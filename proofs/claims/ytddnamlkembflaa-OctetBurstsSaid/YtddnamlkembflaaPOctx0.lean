-- Written by wip/gen/gen.py of this session out of the seat's translation.
import Derived.Test.YtddnamlkembflaaProg
import Derived.Below
import Derived.Deep.Draws
import Derived.Deep.AppendLies
import Derived.Maps.AppendAt
import Derived.OwnWalk
import Derived.Laws.BytesArg
import Derived.Laws.MakeOwn
import Derived.Laws.OwnMore
import Derived.Deep.OwnRows
import Derived.Tactics
import Derived.Lib.ConvBytes
import Derived.Laws.Slices
import Derived.WalkKit
import Derived.KernelRfl
import Derived.RowKit3
import Derived.Deep.LoopGhost
import Derived.Deep.QuietTactic
import Derived.BigQuiet
import Derived.WideLaws
import Derived.Deep.DeepCutAuto
import Derived.Deep.CutBlock
import Derived.Deep.RegionHeld3
import Derived.Laws.Rows
import Derived.Lib.AppendStr
import Derived.ArgAppend
import Derived.Laws.IdiomCopy
import Derived.OrdersHeld
import Derived.Laws.BitsLemmas
import Derived.RowKit
import Derived.Test.YtddnamlkembflaaBuf
import Derived.Test.YtddnamlkembflaaWWords
import Derived.Test.YtddnamlkembflaaWLast
import Derived.Test.YtddnamlkembflaaWTab
import Derived.Test.YtddnamlkembflaaWFour
import Derived.Test.YtddnamlkembflaaWQPut
import Derived.Test.YtddnamlkembflaaWApart
import Derived.Test.YtddnamlkembflaaWArr
import Derived.Test.YtddnamlkembflaaWZeros
import Derived.Test.YtddnamlkembflaaWFoot
import Derived.Test.YtddnamlkembflaaWKept
import Derived.Test.YtddnamlkembflaaWShare
import Derived.Test.YtddnamlkembflaaWN
import Derived.Test.YtddnamlkembflaaWFootNe
import Derived.Test.YtddnamlkembflaaWAt
import Derived.Test.YtddnamlkembflaaWEqStruct
import Derived.Test.YtddnamlkembflaaWRepsOne
import Derived.Test.YtddnamlkembflaaWInv
import Derived.Test.YtddnamlkembflaaWInvWords
import Derived.Test.YtddnamlkembflaaWGuard
import Derived.Test.YtddnamlkembflaaWNEv
import Derived.Test.YtddnamlkembflaaWMore
namespace Go.Proofs.Ytddnamlkembflaa.POct
open Go.Proofs.Ytddnamlkembflaa.Hand Go.RowKit Go.Proofs.YtddnamlkembflaaW.PrintWords Go.Proofs.YtddnamlkembflaaW.PrintLast Go.Proofs.YtddnamlkembflaaW.PrintMore
attribute [local go_sem] max2_int min2_int max_two min_two max_three min_three max_four min_four   -- for this text's walks alone
set_option linter.unusedVariables false
set_option linter.unusedSimpArgs false



def errW : Option Int → Value
  | none => .nilIface
  | some c => .iface 0 (.int .i64 c)
theorem errW_none : errW none = .nilIface := rfl
theorem errW_some (c : Int) : errW (some c) = .iface 0 (.int .i64 c) := rfl

theorem info5 : (Try.prog.info? 5).map (fun i => (i.zero, i.size, i.bytes)) = some (some (.int .u8 0), 1, 1) := by kernel_rfl
-- the values' own types

end Go.Proofs.Ytddnamlkembflaa.POct

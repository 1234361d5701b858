-- printed by wip/drv.py, this work's own driver, out of the translation; Lean checks it
import Derived.Test.YtfbhipcfjkkmmaaDoorProg
import Derived.Below
import Derived.Deep.Draws
import Derived.Deep.AppendLies
import Derived.Maps.AppendAt
import Derived.OwnWalk
import Derived.Laws.BytesArg
import Derived.Laws.MakeOwn
import Derived.Laws.OwnMore
import Derived.Deep.OwnRows
import Derived.Tactics
import Derived.Lib.ConvBytes
import Derived.Laws.Slices
import Derived.WalkKit
import Derived.KernelRfl
import Derived.RowKit3
import Derived.Deep.LoopGhost
import Derived.Deep.QuietTactic
import Derived.BigQuiet
import Derived.WideLaws
import Derived.Deep.DeepCutAuto
import Derived.Deep.CutBlock
import Derived.Deep.RegionHeld3
import Derived.Laws.Rows
import Derived.Lib.AppendStr
import Derived.ArgAppend
import Derived.Laws.IdiomCopy
import Derived.OrdersHeld
import Derived.Laws.BitsLemmas
import Derived.RowKit
import Derived.Test.YtfbhipcfjkkmmaaDoorWWords
import Derived.Test.YtfbhipcfjkkmmaaDoorWLast
import Derived.Test.YtfbhipcfjkkmmaaDoorWTab
import Derived.Test.YtfbhipcfjkkmmaaDoorWFour
import Derived.Test.YtfbhipcfjkkmmaaDoorWQPut
import Derived.Test.YtfbhipcfjkkmmaaDoorWApart
import Derived.Test.YtfbhipcfjkkmmaaDoorWArr
import Derived.Test.YtfbhipcfjkkmmaaDoorWZeros
import Derived.Test.YtfbhipcfjkkmmaaDoorWFoot
import Derived.Test.YtfbhipcfjkkmmaaDoorWKept
import Derived.Test.YtfbhipcfjkkmmaaDoorWShare
import Derived.Test.YtfbhipcfjkkmmaaDoorWN
import Derived.Test.YtfbhipcfjkkmmaaDoorWFootNe
import Derived.Test.YtfbhipcfjkkmmaaDoorWAt
import Derived.Test.YtfbhipcfjkkmmaaDoorWEqStruct
import Derived.Test.YtfbhipcfjkkmmaaDoorWRepsOne
import Derived.Test.YtfbhipcfjkkmmaaDoorWInv
import Derived.Test.YtfbhipcfjkkmmaaDoorWInvWords
import Derived.Test.YtfbhipcfjkkmmaaDoorWGuard
import Derived.Test.YtfbhipcfjkkmmaaDoorWNEv
import Derived.Test.YtfbhipcfjkkmmaaDoorWMore
namespace Go.Proofs.YtfbhipcfjkkmmaaDoor.P
open Go.RowKit Go.Proofs.YtfbhipcfjkkmmaaDoorW.PrintWords Go.Proofs.YtfbhipcfjkkmmaaDoorW.PrintLast Go.Proofs.YtfbhipcfjkkmmaaDoorW.PrintMore
attribute [local go_sem] max2_int min2_int max_two min_two max_three min_three max_four min_four   -- for this text's walks alone
set_option linter.unusedVariables false
set_option linter.unusedSimpArgs false



def errW : Option Int → Value
  | none => .nilIface
  | some c => .iface 0 (.int .i64 c)
theorem errW_none : errW none = .nilIface := rfl
theorem errW_some (c : Int) : errW (some c) = .iface 0 (.int .i64 c) := rfl

-- the values' own types

end Go.Proofs.YtfbhipcfjkkmmaaDoor.P

/- Written by a program of this session (wip/xp) out of the translation: functions in plain Lean, and proofs that the calls come to these. -/
import Derived.Test.YtfolonajajideaaProg
import Derived.Below
import Derived.Deep.Draws
import Derived.Deep.AppendLies
import Derived.Maps.AppendAt
import Derived.OwnWalk
import Derived.Laws.BytesArg
import Derived.Laws.MakeOwn
import Derived.Laws.OwnMore
import Derived.Deep.OwnRows
import Derived.Tactics
import Derived.Lib.ConvBytes
import Derived.Laws.Slices
import Derived.WalkKit
import Derived.KernelRfl
import Derived.RowKit3
import Derived.Deep.LoopGhost
import Derived.Deep.QuietTactic
import Derived.BigQuiet
import Derived.WideLaws
import Derived.Deep.DeepCutAuto
import Derived.Deep.CutBlock
import Derived.Deep.RegionHeld3
import Derived.Laws.Rows
import Derived.Lib.AppendStr
import Derived.ArgAppend
import Derived.Laws.IdiomCopy
import Derived.OrdersHeld
import Derived.Laws.BitsLemmas
import Derived.RowKit
import Derived.Test.YtfolonajajideaaWWords
import Derived.Test.YtfolonajajideaaWLast
import Derived.Test.YtfolonajajideaaWTab
import Derived.Test.YtfolonajajideaaWFour
import Derived.Test.YtfolonajajideaaWQPut
import Derived.Test.YtfolonajajideaaWApart
import Derived.Test.YtfolonajajideaaWArr
import Derived.Test.YtfolonajajideaaWZeros
import Derived.Test.YtfolonajajideaaWFoot
import Derived.Test.YtfolonajajideaaWKept
import Derived.Test.YtfolonajajideaaWShare
import Derived.Test.YtfolonajajideaaWN
import Derived.Test.YtfolonajajideaaWFootNe
import Derived.Test.YtfolonajajideaaWAt
import Derived.Test.YtfolonajajideaaWEqStruct
import Derived.Test.YtfolonajajideaaWRepsOne
import Derived.Test.YtfolonajajideaaWInv
import Derived.Test.YtfolonajajideaaWInvWords
import Derived.Test.YtfolonajajideaaWGuard
import Derived.Test.YtfolonajajideaaWNEv
import Derived.Test.YtfolonajajideaaWMore
namespace Go.Proofs.Ytfolonajajideaa.PAll
open Go.RowKit Go.Proofs.YtfolonajajideaaW.PrintWords Go.Proofs.YtfolonajajideaaW.PrintLast Go.Proofs.YtfolonajajideaaW.PrintMore
attribute [local go_sem] max2_int min2_int max_two min_two max_three min_three max_four min_four   -- for this text's walks alone
set_option linter.unusedVariables false
set_option linter.unusedSimpArgs false



def errW : Option Int → Value
 | none => .nilIface
 | some c => .iface 0 (.int .i64 c)
theorem errW_none : errW none = .nilIface := rfl
theorem errW_some (c : Int) : errW (some c) = .iface 0 (.int .i64 c) := rfl

theorem info3 : (Try.prog.info? 3).map (fun i => (i.zero, i.size, i.bytes)) = some (some (.int .i64 0), 1, 8) := by kernel_rfl
-- the values' own types

end Go.Proofs.Ytfolonajajideaa.PAll

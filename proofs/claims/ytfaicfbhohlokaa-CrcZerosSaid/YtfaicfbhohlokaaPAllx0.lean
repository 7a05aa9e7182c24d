/- Written by a program of this session (wip/xp) out of the translation: functions in plain Lean, and proofs that the calls come to these. -/
import Derived.Test.YtfaicfbhohlokaaProg
import Derived.Below
import Derived.Deep.Draws
import Derived.Deep.AppendLies
import Derived.Maps.AppendAt
import Derived.OwnWalk
import Derived.Laws.BytesArg
import Derived.Laws.MakeOwn
import Derived.Laws.OwnMore
import Derived.Deep.OwnRows
import Derived.Tactics
import Derived.Lib.ConvBytes
import Derived.Laws.Slices
import Derived.WalkKit
import Derived.KernelRfl
import Derived.RowKit3
import Derived.Deep.LoopGhost
import Derived.Deep.QuietTactic
import Derived.BigQuiet
import Derived.WideLaws
import Derived.Deep.DeepCutAuto
import Derived.Deep.CutBlock
import Derived.Deep.RegionHeld3
import Derived.Laws.Rows
import Derived.Lib.AppendStr
import Derived.ArgAppend
import Derived.Laws.IdiomCopy
import Derived.OrdersHeld
import Derived.Laws.BitsLemmas
import Derived.RowKit
import Derived.Test.YtfaicfbhohlokaaWWords
import Derived.Test.YtfaicfbhohlokaaWLast
import Derived.Test.YtfaicfbhohlokaaWTab
import Derived.Test.YtfaicfbhohlokaaWFour
import Derived.Test.YtfaicfbhohlokaaWQPut
import Derived.Test.YtfaicfbhohlokaaWApart
import Derived.Test.YtfaicfbhohlokaaWArr
import Derived.Test.YtfaicfbhohlokaaWZeros
import Derived.Test.YtfaicfbhohlokaaWFoot
import Derived.Test.YtfaicfbhohlokaaWKept
import Derived.Test.YtfaicfbhohlokaaWShare
import Derived.Test.YtfaicfbhohlokaaWN
import Derived.Test.YtfaicfbhohlokaaWFootNe
import Derived.Test.YtfaicfbhohlokaaWAt
import Derived.Test.YtfaicfbhohlokaaWEqStruct
import Derived.Test.YtfaicfbhohlokaaWRepsOne
import Derived.Test.YtfaicfbhohlokaaWInv
import Derived.Test.YtfaicfbhohlokaaWInvWords
import Derived.Test.YtfaicfbhohlokaaWGuard
import Derived.Test.YtfaicfbhohlokaaWNEv
import Derived.Test.YtfaicfbhohlokaaWMore
namespace Go.Proofs.Ytfaicfbhohlokaa.PAll
open Go.RowKit Go.Proofs.YtfaicfbhohlokaaW.PrintWords Go.Proofs.YtfaicfbhohlokaaW.PrintLast Go.Proofs.YtfaicfbhohlokaaW.PrintMore
attribute [local go_sem] max2_int min2_int max_two min_two max_three min_three max_four min_four   -- for this text's walks alone
set_option linter.unusedVariables false
set_option linter.unusedSimpArgs false



def errW : Option Int → Value
  | none => .nilIface
  | some c => .iface 0 (.int .i64 c)
theorem errW_none : errW none = .nilIface := rfl
theorem errW_some (c : Int) : errW (some c) = .iface 0 (.int .i64 c) := rfl

theorem info5 : (Try.prog.info? 5).map (fun i => (i.zero, i.size, i.bytes)) = some (some (.int .u8 0), 1, 1) := by kernel_rfl
-- the values' own types

end Go.Proofs.Ytfaicfbhohlokaa.PAll

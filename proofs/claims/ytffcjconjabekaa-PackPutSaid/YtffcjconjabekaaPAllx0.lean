/- Written by a program of this session (wip/xp) out of the translation: functions in plain Lean, and proofs that the calls come to these. -/
import Derived.Test.YtffcjconjabekaaProg
import Derived.Below
import Derived.Deep.Draws
import Derived.Deep.AppendLies
import Derived.Maps.AppendAt
import Derived.OwnWalk
import Derived.Laws.BytesArg
import Derived.Laws.MakeOwn
import Derived.Laws.OwnMore
import Derived.Deep.OwnRows
import Derived.Tactics
import Derived.Lib.ConvBytes
import Derived.Laws.Slices
import Derived.WalkKit
import Derived.KernelRfl
import Derived.RowKit3
import Derived.Deep.LoopGhost
import Derived.Deep.QuietTactic
import Derived.BigQuiet
import Derived.WideLaws
import Derived.Deep.DeepCutAuto
import Derived.Deep.CutBlock
import Derived.Deep.RegionHeld3
import Derived.Laws.Rows
import Derived.Lib.AppendStr
import Derived.ArgAppend
import Derived.Laws.IdiomCopy
import Derived.OrdersHeld
import Derived.Laws.BitsLemmas
import Derived.RowKit
import Derived.Test.YtffcjconjabekaaWWords
import Derived.Test.YtffcjconjabekaaWLast
import Derived.Test.YtffcjconjabekaaWTab
import Derived.Test.YtffcjconjabekaaWFour
import Derived.Test.YtffcjconjabekaaWQPut
import Derived.Test.YtffcjconjabekaaWApart
import Derived.Test.YtffcjconjabekaaWArr
import Derived.Test.YtffcjconjabekaaWZeros
import Derived.Test.YtffcjconjabekaaWFoot
import Derived.Test.YtffcjconjabekaaWKept
import Derived.Test.YtffcjconjabekaaWShare
import Derived.Test.YtffcjconjabekaaWN
import Derived.Test.YtffcjconjabekaaWFootNe
import Derived.Test.YtffcjconjabekaaWAt
import Derived.Test.YtffcjconjabekaaWEqStruct
import Derived.Test.YtffcjconjabekaaWRepsOne
import Derived.Test.YtffcjconjabekaaWInv
import Derived.Test.YtffcjconjabekaaWInvWords
import Derived.Test.YtffcjconjabekaaWGuard
import Derived.Test.YtffcjconjabekaaWNEv
import Derived.Test.YtffcjconjabekaaWMore
namespace Go.Proofs.Ytffcjconjabekaa.PAll
open Go.RowKit Go.Proofs.YtffcjconjabekaaW.PrintWords Go.Proofs.YtffcjconjabekaaW.PrintLast Go.Proofs.YtffcjconjabekaaW.PrintMore
attribute [local go_sem] max2_int min2_int max_two min_two max_three min_three max_four min_four   -- for this text's walks alone
set_option linter.unusedVariables false
set_option linter.unusedSimpArgs false



def errW : Option Int → Value
  | none => .nilIface
  | some c => .iface 0 (.int .i64 c)
theorem errW_none : errW none = .nilIface := rfl
theorem errW_some (c : Int) : errW (some c) = .iface 0 (.int .i64 c) := rfl

theorem info3 : (Try.prog.info? 3).map (fun i => (i.zero, i.size, i.bytes)) = some (some (.int .i64 0), 1, 8) := by kernel_rfl
theorem info5 : (Try.prog.info? 5).map (fun i => (i.zero, i.size, i.bytes)) = some (some (.int .u8 0), 1, 1) := by kernel_rfl
-- the values' own types

end Go.Proofs.Ytffcjconjabekaa.PAll

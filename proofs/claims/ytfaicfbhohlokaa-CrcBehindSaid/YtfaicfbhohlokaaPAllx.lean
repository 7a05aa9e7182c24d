/- Written by a program of this session (wip/xp) out of the translation: functions in plain Lean, and proofs that the calls come to these. -/
import Derived.Test.YtfaicfbhohlokaaPAllx0
import Derived.Test.YtfaicfbhohlokaaPAllx1
import Derived.Test.YtfaicfbhohlokaaPAllx2
import Derived.Test.YtfaicfbhohlokaaPAllx3
import Derived.Test.YtfaicfbhohlokaaPAllx4
import Derived.Test.YtfaicfbhohlokaaPAllx5
namespace Go.Proofs.Ytfaicfbhohlokaa.PAll
open Go.RowKit Go.Proofs.YtfaicfbhohlokaaW.PrintWords Go.Proofs.YtfaicfbhohlokaaW.PrintLast Go.Proofs.YtfaicfbhohlokaaW.PrintMore
attribute [local go_sem] max2_int min2_int max_two min_two max_three min_three max_four min_four   -- for this text's walks alone
set_option linter.unusedVariables false
set_option linter.unusedSimpArgs false

end Go.Proofs.Ytfaicfbhohlokaa.PAll

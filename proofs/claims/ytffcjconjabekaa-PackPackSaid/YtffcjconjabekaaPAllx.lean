/- Written by a program of this session (wip/xp) out of the translation: functions in plain Lean, and proofs that the calls come to these. -/
import Derived.Test.YtffcjconjabekaaPAllx0
import Derived.Test.YtffcjconjabekaaPAllx1
import Derived.Test.YtffcjconjabekaaPAllx2
import Derived.Test.YtffcjconjabekaaPAllx3
import Derived.Test.YtffcjconjabekaaPAllx4
import Derived.Test.YtffcjconjabekaaPAllx5
namespace Go.Proofs.Ytffcjconjabekaa.PAll
open Go.RowKit Go.Proofs.YtffcjconjabekaaW.PrintWords Go.Proofs.YtffcjconjabekaaW.PrintLast Go.Proofs.YtffcjconjabekaaW.PrintMore
attribute [local go_sem] max2_int min2_int max_two min_two max_three min_three max_four min_four   -- for this text's walks alone
set_option linter.unusedVariables false
set_option linter.unusedSimpArgs false

end Go.Proofs.Ytffcjconjabekaa.PAll

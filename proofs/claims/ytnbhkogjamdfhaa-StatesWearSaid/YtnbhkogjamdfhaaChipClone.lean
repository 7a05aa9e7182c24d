/- slices.Clone of blocks and of pages: the elements are only read. -/
import Derived.Test.YtnbhkogjamdfhaaChip
import Derived.Lib.SliceRun
import Derived.Lib.LazyBuf
namespace Go.Proofs.Ytnbhkogjamdfhaa.X
open Go.RowKit Go.Proofs.Ytnbhkogjamdfhaa.PAll Go.Proofs.YtnbhkogjamdfhaaW.PrintWords Go.Proofs.YtnbhkogjamdfhaaW.PrintLast Go.Proofs.YtnbhkogjamdfhaaW.PrintMore
set_option linter.unusedVariables false
set_option linter.unusedSimpArgs false
end Go.Proofs.Ytnbhkogjamdfhaa.X

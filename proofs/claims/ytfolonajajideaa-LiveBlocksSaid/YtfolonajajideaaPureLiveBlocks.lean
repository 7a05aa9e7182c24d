/- The statement LiveBlocks over numbers and lists alone: proved in the text that it imports. -/
import Derived.Test.YtfolonajajideaaRepBlocksLaw
namespace Go.Proofs.Ytfolonajajideaa.Pure
open Go.Proofs.Ytfolonajajideaa.PAll
theorem LiveBlocks : clinkerlaw08_LiveBlocks.Pure := X.law_LiveBlocks
end Go.Proofs.Ytfolonajajideaa.Pure

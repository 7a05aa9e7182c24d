/- The statement LiveParts over numbers and lists alone: proved in the text that it imports. -/
import Derived.Test.YtfolonajajideaaLiveLaws
namespace Go.Proofs.Ytfolonajajideaa.Pure
open Go.Proofs.Ytfolonajajideaa.PAll
theorem LiveParts : clinkerlaw08_LiveParts.Pure := X.law_LiveParts
end Go.Proofs.Ytfolonajajideaa.Pure

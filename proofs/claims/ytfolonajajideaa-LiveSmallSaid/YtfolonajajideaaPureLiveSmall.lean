/- The statement LiveSmall over numbers and lists alone: proved in the text that it imports. -/
import Derived.Test.YtfolonajajideaaLiveLaws
namespace Go.Proofs.Ytfolonajajideaa.Pure
open Go.Proofs.Ytfolonajajideaa.PAll
theorem LiveSmall : clinkerlaw08_LiveSmall.Pure := X.law_LiveSmall
end Go.Proofs.Ytfolonajajideaa.Pure

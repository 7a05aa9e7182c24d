/- The statement LiveBound over numbers and lists alone: proved in the text that it imports. -/
import Derived.Test.YtfolonajajideaaRepBoundLaw
namespace Go.Proofs.Ytfolonajajideaa.Pure
open Go.Proofs.Ytfolonajajideaa.PAll
theorem LiveBound : clinkerlaw08_LiveBound.Pure := X.law_LiveBound
end Go.Proofs.Ytfolonajajideaa.Pure

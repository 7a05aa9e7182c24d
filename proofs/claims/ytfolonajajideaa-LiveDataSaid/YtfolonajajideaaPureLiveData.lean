/- The statement LiveData over numbers and lists alone: proved in the text that it imports. -/
import Derived.Test.YtfolonajajideaaRepDataLaw
namespace Go.Proofs.Ytfolonajajideaa.Pure
open Go.Proofs.Ytfolonajajideaa.PAll
theorem LiveData : clinkerlaw08_LiveData.Pure := X.law_LiveData
end Go.Proofs.Ytfolonajajideaa.Pure

/- The statement NandNew over numbers and lists alone: proved in the text that it imports. -/
import Derived.Test.YthjjngfbpoapnaaNandNewLaw
namespace Go.Proofs.Ythjjngfbpoapnaa.Pure
open Go.Proofs.Ythjjngfbpoapnaa.PAll
theorem NandNew : clinkerlaw05_NandNew.Pure := X.law_NandNew
end Go.Proofs.Ythjjngfbpoapnaa.Pure

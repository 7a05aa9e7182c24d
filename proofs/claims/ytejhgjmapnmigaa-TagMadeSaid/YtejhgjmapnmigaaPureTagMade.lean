/- The statement TagMade over numbers and lists alone: proved in the text that it imports. -/
import Derived.Test.YtejhgjmapnmigaaTagMadeLaw
namespace Go.Proofs.Ytejhgjmapnmigaa.Pure
open Go.Proofs.Ytejhgjmapnmigaa.PAll
theorem TagMade : clinkerlaw03_TagMade.Pure := X.law_TagMade
end Go.Proofs.Ytejhgjmapnmigaa.Pure

/- The statement TagSpoilt over numbers and lists alone: proved in the text that it imports. -/
import Derived.Test.YtejhgjmapnmigaaTagSpoiltLaw
namespace Go.Proofs.Ytejhgjmapnmigaa.Pure
open Go.Proofs.Ytejhgjmapnmigaa.PAll
theorem TagSpoilt : clinkerlaw03_TagSpoilt.Pure := X.law_TagSpoilt
end Go.Proofs.Ytejhgjmapnmigaa.Pure

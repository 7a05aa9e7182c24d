/- The statement TagBack over numbers and lists alone: proved in the text that it imports. -/
import Derived.Test.YtejhgjmapnmigaaTagBackLaw
namespace Go.Proofs.Ytejhgjmapnmigaa.Pure
open Go.Proofs.Ytejhgjmapnmigaa.PAll
theorem TagBack : clinkerlaw03_TagBack.Pure := X.law_TagBack
end Go.Proofs.Ytejhgjmapnmigaa.Pure

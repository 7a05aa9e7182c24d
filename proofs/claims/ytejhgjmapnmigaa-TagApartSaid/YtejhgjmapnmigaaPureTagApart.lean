/- The statement TagApart over numbers and lists alone: proved in the text that it imports. -/
import Derived.Test.YtejhgjmapnmigaaTagBackLaw
namespace Go.Proofs.Ytejhgjmapnmigaa.Pure
open Go.Proofs.Ytejhgjmapnmigaa.PAll
theorem TagApart : clinkerlaw03_TagApart.Pure := X.law_TagApart
end Go.Proofs.Ytejhgjmapnmigaa.Pure

/- The statement TagLong over numbers and lists alone: proved in the text that it imports. -/
import Derived.Test.YtejhgjmapnmigaaTagLongLaw
namespace Go.Proofs.Ytejhgjmapnmigaa.Pure
open Go.Proofs.Ytejhgjmapnmigaa.PAll
theorem TagLong : clinkerlaw03_TagLong.Pure := X.law_TagLong
end Go.Proofs.Ytejhgjmapnmigaa.Pure

/- The statement TagDecode over numbers and lists alone: proved in the text that it imports. -/
import Derived.Test.YtejhgjmapnmigaaTagDecLaw
namespace Go.Proofs.Ytejhgjmapnmigaa.Pure
open Go.Proofs.Ytejhgjmapnmigaa.PAll
theorem TagDecode : clinkerlaw03_TagDecode.Pure := X.law_TagDecode
end Go.Proofs.Ytejhgjmapnmigaa.Pure

/- The statement TagKeys over numbers and lists alone: proved in the text that it imports. -/
import Derived.Test.YtejhgjmapnmigaaTagKeysLaw
namespace Go.Proofs.Ytejhgjmapnmigaa.Pure
open Go.Proofs.Ytejhgjmapnmigaa.PAll
theorem TagKeys : clinkerlaw03_TagKeys.Pure := X.law_TagKeys
end Go.Proofs.Ytejhgjmapnmigaa.Pure

/- The statement LookTags over numbers and lists alone: proved in the text that it imports. -/
import Derived.Test.YtpbmcienlbdcbaaLookTagsLawLkT
namespace Go.Proofs.Ytpbmcienlbdcbaa.Pure
open Go.Proofs.Ytpbmcienlbdcbaa.PAll
theorem LookTags : clinkerlaw04_LookTags.Pure := X.law_LookTags
end Go.Proofs.Ytpbmcienlbdcbaa.Pure

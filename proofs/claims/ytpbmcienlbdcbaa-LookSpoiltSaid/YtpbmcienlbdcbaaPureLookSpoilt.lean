/- The statement LookSpoilt over numbers and lists alone: proved in the text that it imports. -/
import Derived.Test.YtpbmcienlbdcbaaLookSpoiltLawLkS
namespace Go.Proofs.Ytpbmcienlbdcbaa.Pure
open Go.Proofs.Ytpbmcienlbdcbaa.PAll
theorem LookSpoilt : clinkerlaw04_LookSpoilt.Pure := X.law_LookSpoilt
end Go.Proofs.Ytpbmcienlbdcbaa.Pure

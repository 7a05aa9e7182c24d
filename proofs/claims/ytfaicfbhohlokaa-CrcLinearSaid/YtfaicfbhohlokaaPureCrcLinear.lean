/- The statement CrcLinear over numbers and lists alone: proved in the text that it imports. -/
import Derived.Test.YtfaicfbhohlokaaCrcLaws
namespace Go.Proofs.Ytfaicfbhohlokaa.Pure
open Go.Proofs.Ytfaicfbhohlokaa.PAll
theorem CrcLinear : clinkerlaw01_CrcLinear.Pure := X.law_CrcLinear
end Go.Proofs.Ytfaicfbhohlokaa.Pure

/- The statement CrcSum over numbers and lists alone: proved in the text that it imports. -/
import Derived.Test.YtfaicfbhohlokaaCrcLaws
namespace Go.Proofs.Ytfaicfbhohlokaa.Pure
open Go.Proofs.Ytfaicfbhohlokaa.PAll
theorem CrcSum : clinkerlaw01_CrcSum.Pure := X.law_CrcSum
end Go.Proofs.Ytfaicfbhohlokaa.Pure

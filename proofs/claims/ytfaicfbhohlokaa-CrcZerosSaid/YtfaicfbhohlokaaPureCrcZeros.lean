/- The statement CrcZeros over numbers and lists alone: proved in the text that it imports. -/
import Derived.Test.YtfaicfbhohlokaaCrcLaws
namespace Go.Proofs.Ytfaicfbhohlokaa.Pure
open Go.Proofs.Ytfaicfbhohlokaa.PAll
theorem CrcZeros : clinkerlaw01_CrcZeros.Pure := X.law_CrcZeros
end Go.Proofs.Ytfaicfbhohlokaa.Pure

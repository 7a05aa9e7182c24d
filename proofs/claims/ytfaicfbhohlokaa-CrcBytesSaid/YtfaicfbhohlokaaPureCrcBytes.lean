/- The statement CrcBytes over numbers and lists alone: proved in the text that it imports. -/
import Derived.Test.YtfaicfbhohlokaaCrcLaws
namespace Go.Proofs.Ytfaicfbhohlokaa.Pure
open Go.Proofs.Ytfaicfbhohlokaa.PAll
theorem CrcBytes : clinkerlaw01_CrcBytes.Pure := X.law_CrcBytes
end Go.Proofs.Ytfaicfbhohlokaa.Pure

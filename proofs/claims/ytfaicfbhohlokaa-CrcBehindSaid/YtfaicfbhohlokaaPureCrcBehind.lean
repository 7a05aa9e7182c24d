/- The statement CrcBehind over numbers and lists alone: proved in the text that it imports. -/
import Derived.Test.YtfaicfbhohlokaaCrcLaws
namespace Go.Proofs.Ytfaicfbhohlokaa.Pure
open Go.Proofs.Ytfaicfbhohlokaa.PAll
theorem CrcBehind : clinkerlaw01_CrcBehind.Pure := X.law_CrcBehind
end Go.Proofs.Ytfaicfbhohlokaa.Pure

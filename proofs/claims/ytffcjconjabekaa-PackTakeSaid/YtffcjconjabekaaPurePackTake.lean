/- The statement PackTake over numbers and lists alone: proved in the text that it imports. -/
import Derived.Test.YtffcjconjabekaaPackLaws
namespace Go.Proofs.Ytffcjconjabekaa.Pure
open Go.Proofs.Ytffcjconjabekaa.PAll
theorem PackTake : clinkerlaw02_PackTake.Pure := X.law_PackTake
end Go.Proofs.Ytffcjconjabekaa.Pure

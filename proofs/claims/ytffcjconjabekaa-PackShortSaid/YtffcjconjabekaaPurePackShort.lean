/- The statement PackShort over numbers and lists alone: proved in the text that it imports. -/
import Derived.Test.YtffcjconjabekaaPackLaws
namespace Go.Proofs.Ytffcjconjabekaa.Pure
open Go.Proofs.Ytffcjconjabekaa.PAll
theorem PackShort : clinkerlaw02_PackShort.Pure := X.law_PackShort
end Go.Proofs.Ytffcjconjabekaa.Pure

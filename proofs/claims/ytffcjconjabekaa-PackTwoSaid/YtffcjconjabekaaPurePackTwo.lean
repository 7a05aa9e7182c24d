/- The statement PackTwo over numbers and lists alone: proved in the text that it imports. -/
import Derived.Test.YtffcjconjabekaaPackLaws
namespace Go.Proofs.Ytffcjconjabekaa.Pure
open Go.Proofs.Ytffcjconjabekaa.PAll
theorem PackTwo : clinkerlaw02_PackTwo.Pure := X.law_PackTwo
end Go.Proofs.Ytffcjconjabekaa.Pure

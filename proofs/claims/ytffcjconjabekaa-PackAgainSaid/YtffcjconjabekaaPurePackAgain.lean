/- The statement PackAgain over numbers and lists alone: proved in the text that it imports. -/
import Derived.Test.YtffcjconjabekaaPackLaws
namespace Go.Proofs.Ytffcjconjabekaa.Pure
open Go.Proofs.Ytffcjconjabekaa.PAll
theorem PackAgain : clinkerlaw02_PackAgain.Pure := X.law_PackAgain
end Go.Proofs.Ytffcjconjabekaa.Pure

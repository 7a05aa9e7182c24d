/- The statement PackBack over numbers and lists alone: proved in the text that it imports. -/
import Derived.Test.YtffcjconjabekaaPackLaws
namespace Go.Proofs.Ytffcjconjabekaa.Pure
open Go.Proofs.Ytffcjconjabekaa.PAll
theorem PackBack : clinkerlaw02_PackBack.Pure := X.law_PackBack
end Go.Proofs.Ytffcjconjabekaa.Pure

/- The statement PackCut over numbers and lists alone: proved in the text that it imports. -/
import Derived.Test.YtffcjconjabekaaPackLaws
namespace Go.Proofs.Ytffcjconjabekaa.Pure
open Go.Proofs.Ytffcjconjabekaa.PAll
theorem PackCut : clinkerlaw02_PackCut.Pure := X.law_PackCut
end Go.Proofs.Ytffcjconjabekaa.Pure

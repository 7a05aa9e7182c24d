/- The statement PackPut over numbers and lists alone: proved in the text that it imports. -/
import Derived.Test.YtffcjconjabekaaPackLaws
namespace Go.Proofs.Ytffcjconjabekaa.Pure
open Go.Proofs.Ytffcjconjabekaa.PAll
theorem PackPut : clinkerlaw02_PackPut.Pure := X.law_PackPut
end Go.Proofs.Ytffcjconjabekaa.Pure

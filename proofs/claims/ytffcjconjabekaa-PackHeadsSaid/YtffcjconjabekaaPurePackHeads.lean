/- The statement PackHeads over numbers and lists alone: proved in the text that it imports. -/
import Derived.Test.YtffcjconjabekaaPackLaws
namespace Go.Proofs.Ytffcjconjabekaa.Pure
open Go.Proofs.Ytffcjconjabekaa.PAll
theorem PackHeads : clinkerlaw02_PackHeads.Pure := X.law_PackHeads
end Go.Proofs.Ytffcjconjabekaa.Pure

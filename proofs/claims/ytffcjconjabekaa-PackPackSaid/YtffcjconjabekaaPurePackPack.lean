/- The statement PackPack over numbers and lists alone: proved in the text that it imports. -/
import Derived.Test.YtffcjconjabekaaPackLaws
namespace Go.Proofs.Ytffcjconjabekaa.Pure
open Go.Proofs.Ytffcjconjabekaa.PAll
theorem PackPack : clinkerlaw02_PackPack.Pure := X.law_PackPack
end Go.Proofs.Ytffcjconjabekaa.Pure

/- The statement IndexFull over numbers and lists alone: proved in the text that it imports. -/
import Derived.Test.YtnmafncghbkogaaIdxFullLaw
namespace Go.Proofs.Ytnmafncghbkogaa.Pure
open Go.Proofs.Ytnmafncghbkogaa.PAll
theorem IndexFull : clinkerlaw09_IndexFull.Pure := X.law_IndexFull
end Go.Proofs.Ytnmafncghbkogaa.Pure

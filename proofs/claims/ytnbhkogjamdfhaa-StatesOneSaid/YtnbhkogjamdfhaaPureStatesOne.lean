/- The statement StatesOne over numbers and lists alone: proved in the text that it imports. -/
import Derived.Test.YtnbhkogjamdfhaaStaOneLaw
namespace Go.Proofs.Ytnbhkogjamdfhaa.Pure
open Go.Proofs.Ytnbhkogjamdfhaa.PAll
theorem StatesOne : clinkerlaw10_StatesOne.Pure := X.law_StatesOne
end Go.Proofs.Ytnbhkogjamdfhaa.Pure

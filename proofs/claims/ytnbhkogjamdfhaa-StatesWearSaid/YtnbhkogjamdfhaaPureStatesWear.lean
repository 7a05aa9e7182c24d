/- The statement StatesWear over numbers and lists alone: proved in the text that it imports. -/
import Derived.Test.YtnbhkogjamdfhaaStaWearLaw
namespace Go.Proofs.Ytnbhkogjamdfhaa.Pure
open Go.Proofs.Ytnbhkogjamdfhaa.PAll
theorem StatesWear : clinkerlaw10_StatesWear.Pure := X.law_StatesWear
end Go.Proofs.Ytnbhkogjamdfhaa.Pure

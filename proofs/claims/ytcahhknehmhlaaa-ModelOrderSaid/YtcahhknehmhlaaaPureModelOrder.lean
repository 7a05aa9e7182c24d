/- The statement ModelOrder over numbers and lists alone: proved in the text that it imports. -/
import Derived.Test.YtcahhknehmhlaaaModelOrderLawMdO
namespace Go.Proofs.Ytcahhknehmhlaaa.Pure
open Go.Proofs.Ytcahhknehmhlaaa.PAll
theorem ModelOrder : clinkerlaw13_ModelOrder.Pure := X.law_ModelOrder
end Go.Proofs.Ytcahhknehmhlaaa.Pure

/- The statement ModelRead over numbers and lists alone: proved in the text that it imports. -/
import Derived.Test.YtcahhknehmhlaaaModelReadLaw
namespace Go.Proofs.Ytcahhknehmhlaaa.Pure
open Go.Proofs.Ytcahhknehmhlaaa.PAll
theorem ModelRead : clinkerlaw13_ModelRead.Pure := X.law_ModelRead
end Go.Proofs.Ytcahhknehmhlaaa.Pure

/- What is the same for all laws of the chip: rounds over what is known. -/
import Derived.Test.YthjjngfbpoapnaaPAllx1
import Derived.Test.YthjjngfbpoapnaaPAllx3
import Derived.Test.YthjjngfbpoapnaaPAllx4
namespace Go.Proofs.Ythjjngfbpoapnaa.X
open Go.RowKit Go.Proofs.Ythjjngfbpoapnaa.PAll Go.Proofs.YthjjngfbpoapnaaW.PrintWords Go.Proofs.YthjjngfbpoapnaaW.PrintLast Go.Proofs.YthjjngfbpoapnaaW.PrintMore
set_option linter.unusedVariables false
set_option linter.unusedSimpArgs false
theorem Ev.have_ {α β : Type} {x : Option α} {a : α} {f : Nat → α → Option β} {r : β} (hx : x = some a) (h : Ev (fun k => f k a) r) : Ev (fun k => x.bind (f k)) r := by
  subst hx
  exact h
theorem same_self (l : List Blk) (br off : Bool) (ops : Int) : clinkerref05_Same.f l br off ops l br off ops = some true := by
  unfold clinkerref05_Same.f
  exact if_pos (by simp [(blsB_eq l l).2 rfl])
end Go.Proofs.Ythjjngfbpoapnaa.X

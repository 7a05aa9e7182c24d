/- What is done to a chip makes of it what the document says. -/
import Derived.Test.YthjjngfbpoapnaaNandOps
import Derived.Test.YthjjngfbpoapnaaPAllx12
import Derived.Test.YthjjngfbpoapnaaSameP
namespace Go.Proofs.Ythjjngfbpoapnaa.X
open Go.RowKit Go.Proofs.Ythjjngfbpoapnaa.PAll Go.Proofs.YthjjngfbpoapnaaW.PrintWords Go.Proofs.YthjjngfbpoapnaaW.PrintLast Go.Proofs.YthjjngfbpoapnaaW.PrintMore
set_option linter.unusedVariables false
set_option linter.unusedSimpArgs false
theorem bind_have {α β : Type} {x : Option α} {a : α} {f : α → Option β} {r : Option β} (hx : x = some a) (h : f a = r) : x.bind f = r := by
  subst hx
  exact h
theorem same_all {l : List Blk} (hs : sm l = true) (br off : Bool) (ops b p : Int) (pw : Bool) (d t : ByteArray) (kind : Int) (fd ft : ByteArray) (n : Int) : clinkerlaw05_same.f l br off ops b p pw d t kind fd ft n = some true := by
  unfold clinkerlaw05_same.f
  refine bind_have (read_f hs ..) (bind_have (show clinkerref05_Read.f l br off ops b p = some ((readV l off b p).1.f0, (readV l off b p).1.f1, (readV l off b p).1.f2, (readV l off b p).2) from if_pos hs) ?_)
  refine bind_have (prog_f hs ..) (bind_have (show clinkerref05_Program.f l br off ops b p pw d t kind fd ft n = some (progV l br off ops b p d t kind fd ft) from if_pos hs) ?_)
  refine bind_have (era_f hs ..) (bind_have (show clinkerref05_Erase.f l br off ops b kind fd ft n = some (eraV l br off ops b kind n) from if_pos hs) ?_)
  rw [if_pos (by simp), if_pos rfl]
  refine bind_have (same_self ..) ?_
  rw [if_pos rfl, if_pos rfl]
  refine bind_have (same_self ..) ?_
  rw [if_pos rfl, if_pos rfl]
  exact bind_have rfl (bind_have (show clinkerref05_On.f l br off ops = some (l, br, false, ops) from if_pos hs) (bind_have (same_self ..) rfl))
end Go.Proofs.Ythjjngfbpoapnaa.X

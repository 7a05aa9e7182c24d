/- The walks of the tag's small checks: whether a list has a number that may not be; a list without its repetitions. -/
import Derived.Test.YtfolonajajideaaWZ
import Derived.Test.YtfolonajajideaaProg
import Derived.WalkKit
import Derived.BigQuiet
import Derived.Lib.Hide
import Derived.Laws.IdiomCopy
import Derived.Lib.SliceRun
import Derived.Lib.LazyBuf
namespace Go.Proofs.Ytfolonajajideaa.X
open Go.RowKit Go.Proofs.YtfolonajajideaaW.PrintWords Go.Proofs.YtfolonajajideaaW.PrintLast
/-- A number that may not be (a key). -/
def oddK (n : Int) : Bool := decide (n < 0) || decide (64 ≤ n)
theorem oddK_succ (l : List Int) (k : Nat) (h : k < l.length) : (l.take (k + 1)).any oddK = ((l.take k).any oddK || oddK (l.getD k 0)) := by
  rw [List.take_succ_eq_append_getElem h, List.any_append, List.getD_eq_getElem?_getD, List.getElem?_eq_getElem h]
  simp
theorem oddK_hit (l : List Int) (k : Nat) (h : k < l.length) (hb : oddK (l.getD k 0) = true) : l.any oddK = true := by
  rw [List.getD_eq_getElem?_getD, List.getElem?_eq_getElem h] at hb
  exact List.any_eq_true.mpr ⟨_, List.getElem_mem h, hb⟩
/-- A number that may not be (a value). -/
def oddV (n : Int) : Bool := decide (n < -1) || decide (512 ≤ n)
theorem oddV_succ (l : List Int) (k : Nat) (h : k < l.length) : (l.take (k + 1)).any oddV = ((l.take k).any oddV || oddV (l.getD k 0)) := by
  rw [List.take_succ_eq_append_getElem h, List.any_append, List.getD_eq_getElem?_getD, List.getElem?_eq_getElem h]
  simp
theorem oddV_hit (l : List Int) (k : Nat) (h : k < l.length) (hb : oddV (l.getD k 0) = true) : l.any oddV = true := by
  rw [List.getD_eq_getElem?_getD, List.getElem?_eq_getElem h] at hb
  exact List.any_eq_true.mpr ⟨_, List.getElem_mem h, hb⟩
end Go.Proofs.Ytfolonajajideaa.X

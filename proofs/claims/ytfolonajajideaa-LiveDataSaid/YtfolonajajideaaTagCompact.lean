/- The walk of the library's Compact: a list without its repetitions. -/
import Derived.Test.YtfolonajajideaaWZ
import Derived.Test.YtfolonajajideaaProg
import Derived.WalkKit
import Derived.BigQuiet
import Derived.Lib.Hide
import Derived.Laws.IdiomCopy
import Derived.Lib.SliceRun
import Derived.Lib.LazyBuf
namespace Go.Proofs.Ytfolonajajideaa.X
open Go.RowKit Go.Proofs.YtfolonajajideaaW.PrintWords Go.Proofs.YtfolonajajideaaW.PrintLast
section
variable {e base n cap g : Nat} {W : World} {ok : Nat → Prop} {v : Value} {xs : List Int}
end
/-- No number stands behind its like, up to place k. -/
def noRep (l : List Int) : Nat → Bool
  | 0 => true
  | k + 1 => noRep l k && (k == 0 || l.getD k 0 != l.getD (k - 1) 0)
theorem noRep_step (l : List Int) (k : Nat) (hk : 1 ≤ k) : noRep l (k + 1) = (noRep l k && (l.getD k 0 != l.getD (k - 1) 0)) := by
  rw [noRep]
  have : (k == 0) = false := beq_eq_false_iff_ne.mpr (by omega)
  rw [this, Bool.false_or]
theorem noRep_le (l : List Int) {a b : Nat} (h : a ≤ b) (hf : noRep l a = false) : noRep l b = false := by
  induction b with
  | zero => have : a = 0 := by omega
            rw [this] at hf; exact hf
  | succ b ih =>
    by_cases h2 : a = b + 1
    · rw [h2] at hf; exact hf
    · rw [noRep, ih (by omega), Bool.false_and]
theorem info_int : (Try.prog.info? 3).map (fun i => (i.zero, i.size, i.bytes)) = some (some (.int .i64 0), 1, 8) := by kernel_rfl
end Go.Proofs.Ytfolonajajideaa.X


/- Written by a program of this session (wip/xp) out of the translation: functions in plain Lean, and proofs that the calls come to these. -/
import Derived.Test.YtnmafncghbkogaaPAllx0
import Derived.Test.YtnmafncghbkogaaIdxFind
namespace Go.Proofs.Ytnmafncghbkogaa.PAll
open Go.RowKit Go.Proofs.YtnmafncghbkogaaW.PrintWords Go.Proofs.YtnmafncghbkogaaW.PrintLast Go.Proofs.YtnmafncghbkogaaW.PrintMore
attribute [local go_sem] max2_int min2_int max_two min_two max_three min_three max_four min_four   -- for this text's walks alone
set_option linter.unusedVariables false
set_option linter.unusedSimpArgs false

-- XIMPORT IdxFind
-- XPART
/-! ### index_Find: function 9 -/
def index_Find.f (l0 : List (S41)) (a1 : Int) : Option (List Int) := if l0.length ≤ 100000 then some (X.findV l0 a1) else none
theorem index_Find.calls (A0 : Option Addr) (c0 : Nat) (l0 : List (S41)) (a1 : Int) (r : List Int) (w : World) (hr0 : Kd.C k41 w A0 l0.length l0) (hc0 : l0.length ≤ c0) (h : index_Find.f l0 a1 = some r) :
  Calls Try.prog 9 #[.slice A0 l0.length c0, .int .i64 a1] w fun e w' => ∃ v0_ : Value, e = .returned (v0_) ∧ Kd.R (Kd.int .i64) 3 w' w.heap.size (fun _ => True) v0_ r ∧ Below w.heap.size w w' := by
 unfold index_Find.f at h
 by_cases hs : l0.length ≤ 100000
 case neg => rw [if_neg hs] at h; cases h
 rw [if_pos hs] at h
 have hx := X.find_any A0 c0 l0 a1 w hr0 hs
 rw [Option.some.inj h] at hx
 exact hx

end Go.Proofs.Ytnmafncghbkogaa.PAll

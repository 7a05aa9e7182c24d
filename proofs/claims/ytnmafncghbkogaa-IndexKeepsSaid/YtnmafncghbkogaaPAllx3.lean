/- Written by a program of this session (wip/xp) out of the translation: functions in plain Lean, and proofs that the calls come to these. -/
import Derived.Test.YtnmafncghbkogaaPAllx0
import Derived.Test.YtnmafncghbkogaaIdxFind
namespace Go.Proofs.Ytnmafncghbkogaa.PAll
open Go.RowKit Go.Proofs.YtnmafncghbkogaaW.PrintWords Go.Proofs.YtnmafncghbkogaaW.PrintLast Go.Proofs.YtnmafncghbkogaaW.PrintMore
attribute [local go_sem] max2_int min2_int max_two min_two max_three min_three max_four min_four   -- for this text's walks alone
set_option linter.unusedVariables false
set_option linter.unusedSimpArgs false

-- XIMPORT IdxFind
-- XPART
/-! ### index_Put: function 8 -/
def index_Put.f (l0 : List (S41)) (a1 : Int) (a2 : Int) : Option (List (S41) × Int) := if l0.length ≤ 100000 then some (X.putV l0 a1 a2) else none
theorem index_Put.calls (A0 : Option Addr) (c0 : Nat) (l0 : List (S41)) (a1 : Int) (a2 : Int) (r1 : List (S41)) (r2 : Int) (w : World) (hr0 : Kd.C k41 w A0 l0.length l0) (hc0 : l0.length ≤ c0) (h : index_Put.f l0 a1 a2 = some (r1, r2)) :
  Calls Try.prog 8 #[.slice A0 l0.length c0, .int .i64 a1, .int .i64 a2] w fun e w' => ∃ v0_ : Value, e = .returned (.tuple #[v0_, .int .i64 r2]) ∧ Kd.V k41 41 w' w.heap.size (fun k_ => (w.heap.size ≤ k_)) v0_ r1 ∧ Below w.heap.size w w' := by
 unfold index_Put.f at h
 by_cases hs : l0.length ≤ 100000
 case neg => rw [if_neg hs] at h; cases h
 rw [if_pos hs] at h
 have hx := X.put_any A0 c0 l0 a1 a2 w hr0 hc0 hs
 rw [Option.some.inj h] at hx
 exact hx

end Go.Proofs.Ytnmafncghbkogaa.PAll

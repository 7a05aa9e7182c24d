/- Written by a program of this session (wip/xp) out of the translation: functions in plain Lean, and proofs that the calls come to these. -/
import Derived.Test.YtnmafncghbkogaaPAllx0
import Derived.Test.YtnmafncghbkogaaIdxFind
namespace Go.Proofs.Ytnmafncghbkogaa.PAll
open Go.RowKit Go.Proofs.YtnmafncghbkogaaW.PrintWords Go.Proofs.YtnmafncghbkogaaW.PrintLast Go.Proofs.YtnmafncghbkogaaW.PrintMore
attribute [local go_sem] max2_int min2_int max_two min_two max_three min_three max_four min_four   -- for this text's walks alone
set_option linter.unusedVariables false
set_option linter.unusedSimpArgs false

-- XIMPORT IdxFind
-- XPART
/-! ### index_Drop: function 7 -/
def index_Drop.f (l0 : List (S41)) (a1 : Int) (a2 : Int) : Option (List (S41)) := if l0.length ≤ 100000 then some (X.dropV l0 a1 a2) else none
theorem index_Drop.calls (P0_ : Nat → Prop) (A0 : Option Addr) (c0 : Nat) (l0 : List (S41)) (a1 : Int) (a2 : Int) (r : List (S41)) (w : World) (hs0 : Kd.V k41 41 w w.heap.size (fun k_ => P0_ k_) (.slice A0 l0.length c0) l0) (h : index_Drop.f l0 a1 a2 = some r) :
  Calls Try.prog 7 #[.slice A0 l0.length c0, .int .i64 a1, .int .i64 a2] w fun e w' => ∃ v0_ : Value, e = .returned (v0_) ∧ Kd.V k41 41 w' w.heap.size (fun k_ => (P0_ k_ ∨ w.heap.size ≤ k_)) v0_ r ∧ Below w.heap.size w w' := by
 unfold index_Drop.f at h
 by_cases hs : l0.length ≤ 100000
 case neg => rw [if_neg hs] at h; cases h
 rw [if_pos hs] at h
 have hx := X.drop_any P0_ A0 c0 l0 a1 a2 w hs0 hs
 rw [Option.some.inj h] at hx
 exact hx

end Go.Proofs.Ytnmafncghbkogaa.PAll

/- Written by a program of this session (wip/xp) out of the translation: functions in plain Lean, and proofs that the calls come to these. -/
import Derived.Test.YtfolonajajideaaPAllx0
import Derived.Test.YtfolonajajideaaChipAll
namespace Go.Proofs.Ytfolonajajideaa.PAll
open Go.RowKit Go.Proofs.YtfolonajajideaaW.PrintWords Go.Proofs.YtfolonajajideaaW.PrintLast Go.Proofs.YtfolonajajideaaW.PrintMore
attribute [local go_sem] max2_int min2_int max_two min_two max_three min_three max_four min_four   -- for this text's walks alone
set_option linter.unusedVariables false
set_option linter.unusedSimpArgs false

-- XIMPORT ChipAll
-- XPART
/-! ### clinkerref05_New: function 23 -/
def clinkerref05_New.f (a0 : Int) (a1 : Int) (l2 : List Int) : Option (List (S62) × Bool × Bool × Int × Int) := some (X.newV a0 a1 l2)
theorem clinkerref05_New.calls (a0 : Int) (a1 : Int) (A2 : Option Addr) (c2 : Nat) (l2 : List Int) (r1 : List (S62)) (r2 : Bool) (r3 : Bool) (r4 : Int) (r5 : Int) (w : World) (hr2 : Kd.C (Kd.int .i64) w A2 l2.length l2) (_hc2 : l2.length ≤ c2) (h : clinkerref05_New.f a0 a1 l2 = some (r1, r2, r3, r4, r5)) :
  Calls Try.prog 23 #[.int .i64 a0, .int .i64 a1, .slice A2 l2.length c2] w fun e w' => ∃ v0_ : Value, e = .returned (.tuple #[.agg #[v0_, .bool r2, .bool r3, .int .i64 r4], .int .i64 r5]) ∧ Kd.V k62 62 w' w.heap.size (fun k_ => (w.heap.size ≤ k_)) v0_ r1 ∧ Below w.heap.size w w' := by
 unfold clinkerref05_New.f at h
 have hx := X.rnew_any a0 a1 A2 c2 l2 (fun _ => False) w (Kd.reads_of_C (enc := Value.int .i64) (d := (0 : Int)) (h1 := fun _ => rfl) hr2)
 rw [Option.some.inj h] at hx
 exact hx.mono fun _ _ ho => ho.V0

end Go.Proofs.Ytfolonajajideaa.PAll

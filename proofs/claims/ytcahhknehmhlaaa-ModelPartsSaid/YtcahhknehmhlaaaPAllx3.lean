/- Written by a program of this session (wip/xp) out of the translation: functions in plain Lean, and proofs that the calls come to these. -/
import Derived.Test.YtcahhknehmhlaaaPAllx0
import Derived.Test.YtcahhknehmhlaaaModelWalk
namespace Go.Proofs.Ytcahhknehmhlaaa.PAll
open Go.RowKit Go.Proofs.YtcahhknehmhlaaaW.PrintWords Go.Proofs.YtcahhknehmhlaaaW.PrintLast Go.Proofs.YtcahhknehmhlaaaW.PrintMore
attribute [local go_sem] max2_int min2_int max_two min_two max_three min_three max_four min_four   -- for this text's walks alone
set_option linter.unusedVariables false
set_option linter.unusedSimpArgs false

-- XIMPORT ModelWalk
-- XPART
/-! ### model_Check: function 11 -/
def model_Check.f (a0 : Int) (a1_0 : Int) (a1_1 : Int) (a1_2 : Int) (l1_3 : List ByteArray) : Option (Int) := some (X.checkV a0 a1_0 a1_1 a1_2 l1_3)
theorem model_Check.calls (a0 : Int) (a1_0 : Int) (a1_1 : Int) (a1_2 : Int) (A1_3 : Option Addr) (c1_3 : Nat) (l1_3 : List ByteArray) (r : Int) (w : World) (hr1_3 : Kd.C Kd.string w A1_3 l1_3.length l1_3) (hc1_3 : l1_3.length ≤ c1_3) (h : model_Check.f a0 a1_0 a1_1 a1_2 l1_3 = some r) :
  Calls Try.prog 11 #[.int .i64 a0, .agg #[.int .i64 a1_0, .int .i64 a1_1, .int .i64 a1_2, .slice A1_3 l1_3.length c1_3]] w fun e w' => e = .returned (.int .i64 r) ∧ Below w.heap.size w w' := by
 obtain rfl := Option.some.inj h
 exact X.checkp_any a0 a1_0 a1_1 a1_2 A1_3 c1_3 l1_3 w (Kd.reads_of_C (enc := Value.string) (d := ByteArray.empty) (h1 := fun _ => rfl) hr1_3)

end Go.Proofs.Ytcahhknehmhlaaa.PAll

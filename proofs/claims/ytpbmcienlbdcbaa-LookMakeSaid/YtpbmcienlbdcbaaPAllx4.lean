/- Written by a program of this session (wip/xp) out of the translation: functions in plain Lean, and proofs that the calls come to these. -/
import Derived.Test.YtpbmcienlbdcbaaPAllx0
import Derived.Test.YtpbmcienlbdcbaaPAllx2
import Derived.Test.YtpbmcienlbdcbaaTagRight
namespace Go.Proofs.Ytpbmcienlbdcbaa.PAll
open Go.RowKit Go.Proofs.YtpbmcienlbdcbaaW.PrintWords Go.Proofs.YtpbmcienlbdcbaaW.PrintLast Go.Proofs.YtpbmcienlbdcbaaW.PrintMore
attribute [local go_sem] max2_int min2_int max_two min_two max_three min_three max_four min_four   -- for this text's walks alone
set_option linter.unusedVariables false
set_option linter.unusedSimpArgs false

-- XIMPORT TagRight
-- XPART
/-! ### tag_Right: function 22 -/
def tag_Right.f (a0_0 : Int) (a0_1 : Int) (l0_2 : List Int) (l0_3 : List Int) : Option (Bool) := if l0_2.length ≤ 17592186044415 then some (X.rightV a0_0 a0_1 l0_2 l0_3) else none
theorem tag_Right.calls (a0_0 : Int) (a0_1 : Int) (A0_2 : Option Addr) (c0_2 : Nat) (l0_2 : List Int) (A0_3 : Option Addr) (c0_3 : Nat) (l0_3 : List Int) (r : Bool) (w : World) (hr0_2 : Kd.C (Kd.int .i64) w A0_2 l0_2.length l0_2) (hc0_2 : l0_2.length ≤ c0_2) (hr0_3 : Kd.C (Kd.int .i64) w A0_3 l0_3.length l0_3) (hc0_3 : l0_3.length ≤ c0_3) (h : tag_Right.f a0_0 a0_1 l0_2 l0_3 = some r) :
  Calls Try.prog 22 #[.agg #[.int .i64 a0_0, .int .i64 a0_1, .slice A0_2 l0_2.length c0_2, .slice A0_3 l0_3.length c0_3]] w fun e w' => e = .returned (.bool r) ∧ Below w.heap.size w w' := by
 have hn : l0_2.length ≤ 17592186044415 := by
  unfold tag_Right.f at h
  by_cases h2 : l0_2.length ≤ 17592186044415
  ·
   exact h2
  ·
   rw [if_neg h2] at h; cases h
 obtain rfl : X.rightV a0_0 a0_1 l0_2 l0_3 = r := by
  unfold tag_Right.f at h
  rw [if_pos hn] at h
  exact Option.some.inj h
 exact X.right_any slices_Clone_int_int.plain a0_0 a0_1 A0_2 c0_2 l0_2 A0_3 c0_3 l0_3 w hr0_2 hc0_2 hn hr0_3

end Go.Proofs.Ytpbmcienlbdcbaa.PAll

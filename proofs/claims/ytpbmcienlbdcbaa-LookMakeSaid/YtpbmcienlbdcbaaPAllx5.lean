/- Written by a program of this session (wip/xp) out of the translation: functions in plain Lean, and proofs that the calls come to these. -/
import Derived.Test.YtpbmcienlbdcbaaPAllx0
import Derived.Test.YtpbmcienlbdcbaaPAllx2
import Derived.Test.YtpbmcienlbdcbaaTagMoved
namespace Go.Proofs.Ytpbmcienlbdcbaa.PAll
open Go.RowKit Go.Proofs.YtpbmcienlbdcbaaW.PrintWords Go.Proofs.YtpbmcienlbdcbaaW.PrintLast Go.Proofs.YtpbmcienlbdcbaaW.PrintMore
attribute [local go_sem] max2_int min2_int max_two min_two max_three min_three max_four min_four   -- for this text's walks alone
set_option linter.unusedVariables false
set_option linter.unusedSimpArgs false

-- XIMPORT TagMoved
-- XPART
/-! ### tag_moved: function 23 -/
def tag_moved.f (l0 : List Int) (a1 : Int) : Option (List Int) := if l0.length ≤ 17592186044415 then some (X.addAll a1 l0) else none
theorem tag_moved.calls (A0 : Option Addr) (c0 : Nat) (l0 : List Int) (a1 : Int) (r : List Int) (w : World) (hr0 : Kd.C (Kd.int .i64) w A0 l0.length l0) (hc0 : l0.length ≤ c0) (h : tag_moved.f l0 a1 = some r) :
  Calls Try.prog 23 #[.slice A0 l0.length c0, .int .i64 a1] w fun e w' => ∃ v0_ : Value, e = .returned (v0_) ∧ Kd.R (Kd.int .i64) 3 w' w.heap.size (fun _ => True) v0_ r ∧ Below w.heap.size w w' := by
 have hn : l0.length ≤ 17592186044415 := by
  unfold tag_moved.f at h
  by_cases h2 : l0.length ≤ 17592186044415
  ·
   exact h2
  ·
   rw [if_neg h2] at h; cases h
 obtain rfl : X.addAll a1 l0 = r := by
  unfold tag_moved.f at h
  rw [if_pos hn] at h
  exact Option.some.inj h
 exact X.moved_any slices_Clone_int_int.plain A0 c0 l0 a1 w hr0 hc0 hn

end Go.Proofs.Ytpbmcienlbdcbaa.PAll

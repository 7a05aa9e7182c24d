/- Written by a program of this session (wip/xp) out of the translation: functions in plain Lean, and proofs that the calls come to these. -/
import Derived.Test.YtfolonajajideaaPAllx0
import Derived.Test.YtfolonajajideaaLiveCount
namespace Go.Proofs.Ytfolonajajideaa.PAll
open Go.RowKit Go.Proofs.YtfolonajajideaaW.PrintWords Go.Proofs.YtfolonajajideaaW.PrintLast Go.Proofs.YtfolonajajideaaW.PrintMore
attribute [local go_sem] max2_int min2_int max_two min_two max_three min_three max_four min_four   -- for this text's walks alone
set_option linter.unusedVariables false
set_option linter.unusedSimpArgs false

-- XIMPORT LiveCount
-- XPART
/-! ### live_Count: function 13 -/
def live_Count.f (l0_0 : List Int) (l0_1 : List Int) (a1 : Int) : Option (Int) := if l0_0.length ≤ 17592186044416 ∧ l0_1.length ≤ 17592186044416 then some ((X.cntB l0_0 l0_1 a1 : Nat) : Int) else none
theorem live_Count.calls (A0_0 : Option Addr) (c0_0 : Nat) (l0_0 : List Int) (A0_1 : Option Addr) (c0_1 : Nat) (l0_1 : List Int) (a1 : Int) (r : Int) (w : World) (hr0_0 : Kd.C (Kd.int .i64) w A0_0 l0_0.length l0_0) (hc0_0 : l0_0.length ≤ c0_0) (hr0_1 : Kd.C (Kd.int .i64) w A0_1 l0_1.length l0_1) (hc0_1 : l0_1.length ≤ c0_1) (h : live_Count.f l0_0 l0_1 a1 = some r) :
  Calls Try.prog 13 #[.agg #[.slice A0_0 l0_0.length c0_0, .slice A0_1 l0_1.length c0_1], .int .i64 a1] w fun e w' => e = .returned (.int .i64 r) ∧ Below w.heap.size w w' := by
 unfold live_Count.f at h
 by_cases h2 : l0_0.length ≤ 17592186044416 ∧ l0_1.length ≤ 17592186044416
 ·
  rw [if_pos h2] at h
  obtain rfl := Option.some.inj h
  have := X.count_any A0_0 A0_1 c0_0 c0_1 l0_0 l0_1 a1 w (Kd.reads_of_C (enc := Value.int .i64) (d := (0 : Int)) (h1 := fun _ => rfl) hr0_0) (Kd.reads_of_C (enc := Value.int .i64) (d := (0 : Int)) (h1 := fun _ => rfl) hr0_1) h2.1 h2.2
  rw [X.size_cnt] at this
  exact this
 ·
  rw [if_neg h2] at h; cases h

end Go.Proofs.Ytfolonajajideaa.PAll

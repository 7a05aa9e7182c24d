/- Written by a program of this session (wip/xp) out of the translation: functions in plain Lean, and proofs that the calls come to these. -/
import Derived.Test.YthjjngfbpoapnaaPAllx0
import Derived.Test.YthjjngfbpoapnaaChipAll
namespace Go.Proofs.Ythjjngfbpoapnaa.PAll
open Go.RowKit Go.Proofs.YthjjngfbpoapnaaW.PrintWords Go.Proofs.YthjjngfbpoapnaaW.PrintLast Go.Proofs.YthjjngfbpoapnaaW.PrintMore
attribute [local go_sem] max2_int min2_int max_two min_two max_three min_three max_four min_four   -- for this text's walks alone
set_option linter.unusedVariables false
set_option linter.unusedSimpArgs false

-- XIMPORT ChipAll
-- XPART
/-! ### clinkerref05_Same: function 14 -/
def clinkerref05_Same.f (l0_0 : List (S44)) (a0_1 : Bool) (a0_2 : Bool) (a0_3 : Int) (l1_0 : List (S44)) (a1_1 : Bool) (a1_2 : Bool) (a1_3 : Int) : Option (Bool) := if (X.listB X.blB l0_0 l1_0 && (decide (a0_1 = a1_1) && (decide (a0_2 = a1_2) && decide (a0_3 = a1_3)))) = true then some true else none
theorem clinkerref05_Same.calls (A0_0 : Option Addr) (c0_0 : Nat) (l0_0 : List (S44)) (a0_1 : Bool) (a0_2 : Bool) (a0_3 : Int) (A1_0 : Option Addr) (c1_0 : Nat) (l1_0 : List (S44)) (a1_1 : Bool) (a1_2 : Bool) (a1_3 : Int) (r : Bool) (w : World) (hr0_0 : Kd.C k44 w A0_0 l0_0.length l0_0) (_hc0_0 : l0_0.length ≤ c0_0) (hr1_0 : Kd.C k44 w A1_0 l1_0.length l1_0) (_hc1_0 : l1_0.length ≤ c1_0) (h : clinkerref05_Same.f l0_0 a0_1 a0_2 a0_3 l1_0 a1_1 a1_2 a1_3 = some r) :
  Calls Try.prog 14 #[.agg #[.slice A0_0 l0_0.length c0_0, .bool a0_1, .bool a0_2, .int .i64 a0_3], .agg #[.slice A1_0 l1_0.length c1_0, .bool a1_1, .bool a1_2, .int .i64 a1_3]] w fun e w' => e = .returned (.bool r) ∧ Below w.heap.size w w' := by
 unfold clinkerref05_Same.f at h
 by_cases hs : (X.listB X.blB l0_0 l1_0 && (decide (a0_1 = a1_1) && (decide (a0_2 = a1_2) && decide (a0_3 = a1_3)))) = true
 case neg => rw [if_neg hs] at h; cases h
 rw [if_pos hs] at h
 simp only [Bool.and_eq_true, decide_eq_true_iff] at hs
 obtain ⟨h0, h1, h2, h3⟩ := hs
 obtain rfl := (X.blsB_eq _ _).1 h0
 subst h1 h2 h3
 obtain rfl := Option.some.inj h
 exact X.same_any A0_0 c0_0 A1_0 c1_0 l0_0 a0_1 a0_2 a0_3 w hr0_0 hr1_0

end Go.Proofs.Ythjjngfbpoapnaa.PAll

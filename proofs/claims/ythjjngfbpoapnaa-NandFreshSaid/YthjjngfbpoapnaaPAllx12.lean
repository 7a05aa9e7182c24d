/- Written by a program of this session (wip/xp) out of the translation: functions in plain Lean, and proofs that the calls come to these. -/
import Derived.Test.YthjjngfbpoapnaaPAllx0
import Derived.Test.YthjjngfbpoapnaaChipAll
namespace Go.Proofs.Ythjjngfbpoapnaa.PAll
open Go.RowKit Go.Proofs.YthjjngfbpoapnaaW.PrintWords Go.Proofs.YthjjngfbpoapnaaW.PrintLast Go.Proofs.YthjjngfbpoapnaaW.PrintMore
attribute [local go_sem] max2_int min2_int max_two min_two max_three min_three max_four min_four   -- for this text's walks alone
set_option linter.unusedVariables false
set_option linter.unusedSimpArgs false

-- XIMPORT ChipAll
-- XPART
/-! ### clinkerref05_On: function 16 -/
def clinkerref05_On.f (l0_0 : List (S44)) (a0_1 : Bool) (a0_2 : Bool) (a0_3 : Int) : Option (List (S44) × Bool × Bool × Int) := if X.sm l0_0 = true then some (l0_0, a0_1, false, a0_3) else none
theorem clinkerref05_On.calls (A0_0 : Option Addr) (c0_0 : Nat) (l0_0 : List (S44)) (a0_1 : Bool) (a0_2 : Bool) (a0_3 : Int) (r1 : List (S44)) (r2 : Bool) (r3 : Bool) (r4 : Int) (w : World) (hr0_0 : Kd.C k44 w A0_0 l0_0.length l0_0) (hc0_0 : l0_0.length ≤ c0_0) (h : clinkerref05_On.f l0_0 a0_1 a0_2 a0_3 = some (r1, r2, r3, r4)) :
  Calls Try.prog 16 #[.agg #[.slice A0_0 l0_0.length c0_0, .bool a0_1, .bool a0_2, .int .i64 a0_3]] w fun e w' => ∃ v0_ : Value, e = .returned (.agg #[v0_, .bool r2, .bool r3, .int .i64 r4]) ∧ Kd.V k44 44 w' w.heap.size (fun k_ => (w.heap.size ≤ k_)) v0_ r1 ∧ Below w.heap.size w w' := by
 unfold clinkerref05_On.f at h
 by_cases hs : X.sm l0_0 = true
 case neg => rw [if_neg hs] at h; cases h
 rw [if_pos hs] at h
 have hr := Option.some.inj h
 simp only [Prod.mk.injEq] at hr
 obtain ⟨rfl, rfl, rfl, rfl⟩ := hr
 refine (X.on_any A0_0 c0_0 l0_0 a0_1 a0_2 a0_3 w w hr0_0 (Below.refl _ _) hc0_0 hs).mono ?_
 rintro e w' ⟨A1, c1, rfl, hc1, hS, hb⟩
 exact ⟨_, rfl, X.S_V hS hc1, hb⟩

end Go.Proofs.Ythjjngfbpoapnaa.PAll

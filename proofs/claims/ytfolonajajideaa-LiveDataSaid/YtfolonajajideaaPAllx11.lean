/- Written by a program of this session (wip/xp) out of the translation: functions in plain Lean, and proofs that the calls come to these. -/
import Derived.Test.YtfolonajajideaaPAllx0
import Derived.Test.YtfolonajajideaaChipAll
namespace Go.Proofs.Ytfolonajajideaa.PAll
open Go.RowKit Go.Proofs.YtfolonajajideaaW.PrintWords Go.Proofs.YtfolonajajideaaW.PrintLast Go.Proofs.YtfolonajajideaaW.PrintMore
attribute [local go_sem] max2_int min2_int max_two min_two max_three min_three max_four min_four   -- for this text's walks alone
set_option linter.unusedVariables false
set_option linter.unusedSimpArgs false

-- XIMPORT ChipAll
-- XPART
/-! ### clinkerref05_Erase: function 25 -/
def clinkerref05_Erase.f (l0_0 : List (S62)) (a0_1 : Bool) (a0_2 : Bool) (a0_3 : Int) (a1 : Int) (a2_0 : Int) (a2_1 : ByteArray) (a2_2 : ByteArray) (a2_3 : Int) : Option (List (S62) × Bool × Bool × Int × Int) := if X.sm l0_0 = true then some (X.eraV l0_0 a0_1 a0_2 a0_3 a1 a2_0 a2_3) else none
theorem clinkerref05_Erase.calls (A0_0 : Option Addr) (c0_0 : Nat) (l0_0 : List (S62)) (a0_1 : Bool) (a0_2 : Bool) (a0_3 : Int) (a1 : Int) (a2_0 : Int) (a2_1 : ByteArray) (a2_2 : ByteArray) (a2_3 : Int) (r1 : List (S62)) (r2 : Bool) (r3 : Bool) (r4 : Int) (r5 : Int) (w : World) (hr0_0 : Kd.C k62 w A0_0 l0_0.length l0_0) (hc0_0 : l0_0.length ≤ c0_0) (h : clinkerref05_Erase.f l0_0 a0_1 a0_2 a0_3 a1 a2_0 a2_1 a2_2 a2_3 = some (r1, r2, r3, r4, r5)) :
  Calls Try.prog 25 #[.agg #[.slice A0_0 l0_0.length c0_0, .bool a0_1, .bool a0_2, .int .i64 a0_3], .int .i64 a1, .agg #[.int .i64 a2_0, .string a2_1, .string a2_2, .int .i64 a2_3]] w fun e w' => ∃ v0_ : Value, e = .returned (.tuple #[.agg #[v0_, .bool r2, .bool r3, .int .i64 r4], .int .i64 r5]) ∧ Kd.V k62 62 w' w.heap.size (fun k_ => (w.heap.size ≤ k_)) v0_ r1 ∧ Below w.heap.size w w' := by
 unfold clinkerref05_Erase.f at h
 by_cases hs : X.sm l0_0 = true
 case neg => rw [if_neg hs] at h; cases h
 rw [if_pos hs] at h
 have hx := X.rera_any A0_0 c0_0 l0_0 a0_1 a0_2 a0_3 a1 a2_0 a2_1 a2_2 a2_3 (fun _ => False) w hr0_0 hc0_0 hs
 rw [Option.some.inj h] at hx
 exact hx.mono fun _ _ ho => ho.V0

end Go.Proofs.Ytfolonajajideaa.PAll

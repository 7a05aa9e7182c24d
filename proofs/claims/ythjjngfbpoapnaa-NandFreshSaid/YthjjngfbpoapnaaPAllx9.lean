/- Written by a program of this session (wip/xp) out of the translation: functions in plain Lean, and proofs that the calls come to these. -/
import Derived.Test.YthjjngfbpoapnaaPAllx0
import Derived.Test.YthjjngfbpoapnaaNandAwake
namespace Go.Proofs.Ythjjngfbpoapnaa.PAll
open Go.RowKit Go.Proofs.YthjjngfbpoapnaaW.PrintWords Go.Proofs.YthjjngfbpoapnaaW.PrintLast Go.Proofs.YthjjngfbpoapnaaW.PrintMore
attribute [local go_sem] max2_int min2_int max_two min_two max_three min_three max_four min_four   -- for this text's walks alone
set_option linter.unusedVariables false
set_option linter.unusedSimpArgs false

-- XIMPORT NandAwake
-- XPART
/-! ### nand_Read: function 18 -/
def nand_Read.f (l0_0 : List (S44)) (a0_1 : Bool) (a0_2 : Bool) (a0_3 : Int) (a1 : Int) (a2 : Int) : Option (Bool × ByteArray × ByteArray × Int) := if X.sm l0_0 = true then some ((X.readV l0_0 a0_2 a1 a2).1.f0, (X.readV l0_0 a0_2 a1 a2).1.f1, (X.readV l0_0 a0_2 a1 a2).1.f2, (X.readV l0_0 a0_2 a1 a2).2) else none
theorem nand_Read.calls (A0_0 : Option Addr) (c0_0 : Nat) (l0_0 : List (S44)) (a0_1 : Bool) (a0_2 : Bool) (a0_3 : Int) (a1 : Int) (a2 : Int) (r1 : Bool) (r2 : ByteArray) (r3 : ByteArray) (r4 : Int) (w : World) (hr0_0 : Kd.C k44 w A0_0 l0_0.length l0_0) (_hc0_0 : l0_0.length ≤ c0_0) (h : nand_Read.f l0_0 a0_1 a0_2 a0_3 a1 a2 = some (r1, r2, r3, r4)) :
  Calls Try.prog 18 #[.agg #[.slice A0_0 l0_0.length c0_0, .bool a0_1, .bool a0_2, .int .i64 a0_3], .int .i64 a1, .int .i64 a2] w fun e w' => e = .returned (.tuple #[.agg #[.bool r1, .string r2, .string r3], .int .i64 r4]) ∧ Below w.heap.size w w' := by
 unfold nand_Read.f at h
 by_cases hs : X.sm l0_0 = true
 case neg => rw [if_neg hs] at h; cases h
 rw [if_pos hs] at h
 have hx := Option.some.inj h
 simp only [Prod.mk.injEq] at hx
 obtain ⟨rfl, rfl, rfl, rfl⟩ := hx
 exact X.nread_any A0_0 c0_0 l0_0 a0_1 a0_2 a0_3 a1 a2 w hr0_0 hs

end Go.Proofs.Ythjjngfbpoapnaa.PAll

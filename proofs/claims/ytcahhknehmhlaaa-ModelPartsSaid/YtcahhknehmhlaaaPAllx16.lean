/- Written by a program of this session (wip/xp) out of the translation: functions in plain Lean, and proofs that the calls come to these. -/
import Derived.Test.YtcahhknehmhlaaaPAllx0
import Derived.Test.YtcahhknehmhlaaaModelMadeB
namespace Go.Proofs.Ytcahhknehmhlaaa.PAll
open Go.RowKit Go.Proofs.YtcahhknehmhlaaaW.PrintWords Go.Proofs.YtcahhknehmhlaaaW.PrintLast Go.Proofs.YtcahhknehmhlaaaW.PrintMore
attribute [local go_sem] max2_int min2_int max_two min_two max_three min_three max_four min_four   -- for this text's walks alone
set_option linter.unusedVariables false
set_option linter.unusedSimpArgs false

-- XIMPORT ModelMadeB
-- XPART
/-! ### clinkerlaw13_Made: function 16 -/
def clinkerlaw13_Made.f (l0 : List Int) : Option (Int × Int × Int × List ByteArray) := if ∀ x ∈ l0, 0 ≤ x ∧ x ≤ 255 then some (X.madeV l0) else none
theorem clinkerlaw13_Made.calls (A0 : Option Addr) (c0 : Nat) (l0 : List Int) (r1 : Int) (r2 : Int) (r3 : Int) (r4 : List ByteArray) (w : World) (hr0 : Kd.C (Kd.int .u8) w A0 l0.length l0) (_hc0 : l0.length ≤ c0) (h : clinkerlaw13_Made.f l0 = some (r1, r2, r3, r4)) :
  Calls Try.prog 16 #[.slice A0 l0.length c0] w fun e w' => ∃ v3_ : Value, e = .returned (.agg #[.int .i64 r1, .int .i64 r2, .int .i64 r3, v3_]) ∧ Kd.R Kd.string 9 w' w.heap.size (fun _ => True) v3_ r4 ∧ Below w.heap.size w w' := by
 unfold clinkerlaw13_Made.f at h
 by_cases hl : ∀ x ∈ l0, 0 ≤ x ∧ x ≤ 255
 case neg => rw [if_neg hl] at h; cases h
 rw [if_pos hl] at h
 have hv := Option.some.inj h
 have hr := Kd.reads_of_C (enc := Value.int .u8) (d := (0 : Int)) (h1 := fun _ => rfl) hr0
 have := X.made_any A0 c0 l0 hl w hr (fun hp ad e => by
  obtain ⟨ad', h1, h2⟩ := hr.2.2 hp
  obtain rfl : ad' = ad := Option.some.inj (h1.symm.trans e)
  have h3 := World.block_lt_of_cell? _ _ (h2 0 hp)
  rwa [add_block] at h3)
 rw [hv] at this
 exact this

end Go.Proofs.Ytcahhknehmhlaaa.PAll

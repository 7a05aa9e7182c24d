/- Written by a program of this session (wip/xp) out of the translation: functions in plain Lean, and proofs that the calls come to these. -/
import Derived.Test.YtfolonajajideaaPAllx0
import Derived.Test.YtfolonajajideaaTagMadeB
namespace Go.Proofs.Ytfolonajajideaa.PAll
open Go.RowKit Go.Proofs.YtfolonajajideaaW.PrintWords Go.Proofs.YtfolonajajideaaW.PrintLast Go.Proofs.YtfolonajajideaaW.PrintMore
attribute [local go_sem] max2_int min2_int max_two min_two max_three min_three max_four min_four   -- for this text's walks alone
set_option linter.unusedVariables false
set_option linter.unusedSimpArgs false

-- XIMPORT TagMadeB
-- XPART
/-! ### clinkerlaw03_Made: function 37 -/
def clinkerlaw03_Made.f (l0 : List Int) : Option (Int × Int × List Int × List Int) := if ∀ x ∈ l0, 0 ≤ x ∧ x ≤ 65535 then some (X.madeV l0) else none
theorem clinkerlaw03_Made.calls (A0 : Option Addr) (c0 : Nat) (l0 : List Int) (r1 : Int) (r2 : Int) (r3 : List Int) (r4 : List Int) (w : World) (hr0 : Kd.C (Kd.int .u16) w A0 l0.length l0) (_hc0 : l0.length ≤ c0) (h : clinkerlaw03_Made.f l0 = some (r1, r2, r3, r4)) :
  Calls Try.prog 37 #[.slice A0 l0.length c0] w fun e w' => ∃ v2_ v3_ : Value, e = .returned (.agg #[.int .i64 r1, .int .i64 r2, v2_, v3_]) ∧ Kd.R (Kd.int .i64) 3 w' w.heap.size (fun k_ => some k_ ≠ (v3_ : Value).ownBlock) v2_ r3 ∧ Kd.R (Kd.int .i64) 3 w' w.heap.size (fun k_ => some k_ ≠ (v2_ : Value).ownBlock) v3_ r4 ∧ Below w.heap.size w w' := by
 unfold clinkerlaw03_Made.f at h
 by_cases hl : ∀ x ∈ l0, 0 ≤ x ∧ x ≤ 65535
 case neg => rw [if_neg hl] at h; cases h
 rw [if_pos hl] at h
 have hv := Option.some.inj h
 have hr := Kd.reads_of_C (enc := Value.int .u16) (d := (0 : Int)) (h1 := fun _ => rfl) hr0
 have := X.made_any A0 c0 l0 hl w hr (fun hp ad e => by
  obtain ⟨ad', h1, h2⟩ := hr.2.2 hp
  obtain rfl : ad' = ad := Option.some.inj (h1.symm.trans e)
  have h3 := World.block_lt_of_cell? _ _ (h2 0 hp)
  rwa [add_block] at h3)
 rw [hv] at this
 exact this

end Go.Proofs.Ytfolonajajideaa.PAll

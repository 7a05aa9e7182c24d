/- Written by a program of this session (wip/xp) out of the translation: functions in plain Lean, and proofs that the calls come to these. -/
import Derived.Test.YtfolonajajideaaPAllx0
import Derived.Test.YtfolonajajideaaLiveWalk
namespace Go.Proofs.Ytfolonajajideaa.PAll
open Go.RowKit Go.Proofs.YtfolonajajideaaW.PrintWords Go.Proofs.YtfolonajajideaaW.PrintLast Go.Proofs.YtfolonajajideaaW.PrintMore
attribute [local go_sem] max2_int min2_int max_two min_two max_three min_three max_four min_four   -- for this text's walks alone
set_option linter.unusedVariables false
set_option linter.unusedSimpArgs false

-- XIMPORT LiveWalk
-- XPART
/-! ### live_Owners: function 17 -/
def live_Owners.f (l0_0 : List Int) (l0_1 : List Int) (a1 : Int) : Option (List Int) := if l0_0.length ≤ 17592186044416 then some (X.idxTo l0_0 a1 l0_0.length) else none
set_option maxRecDepth 100000 in
theorem live_Owners.calls (A0_0 : Option Addr) (c0_0 : Nat) (l0_0 : List Int) (A0_1 : Option Addr) (c0_1 : Nat) (l0_1 : List Int) (a1 : Int) (r : List Int) (w : World) (hr0_0 : Kd.C (Kd.int .i64) w A0_0 l0_0.length l0_0) (hc0_0 : l0_0.length ≤ c0_0) (hr0_1 : Kd.C (Kd.int .i64) w A0_1 l0_1.length l0_1) (hc0_1 : l0_1.length ≤ c0_1) (h : live_Owners.f l0_0 l0_1 a1 = some r) :
  Calls Try.prog 17 #[.agg #[.slice A0_0 l0_0.length c0_0, .slice A0_1 l0_1.length c0_1], .int .i64 a1] w fun e w' => ∃ v0_ : Value, e = .returned (v0_) ∧ Kd.R (Kd.int .i64) 3 w' w.heap.size (fun _ => True) v0_ r ∧ Below w.heap.size w w' := by
 have HR := Aside0.mk (Kd.reads_of_C (enc := Value.int .i64) (d := (0 : Int)) (h1 := fun _ => rfl) hr0_0)
 have HN := Aside0.mk (show l0_0.length * 8 ≤ 140737488355328 by
  unfold live_Owners.f at h
  by_cases h2 : l0_0.length ≤ 17592186044416
  ·
   omega
  ·
   rw [if_neg h2] at h; cases h)
 obtain rfl : X.idxTo l0_0 a1 l0_0.length = r := by
  unfold live_Owners.f at h
  rw [if_pos (by have := HN.out; omega)] at h
  exact Option.some.inj h
 clear h hr0_0 hr0_1
 have hu := Try.underlying24
 go_enter Try.func17, Try.ntmps17
 go_wp2_with (first
  | (go_at_call 35; refine (X.which_in _ _ _ _ _).mono ?_; rintro e w1 ⟨rfl, rfl⟩)
  | (go_at_call 34; refine (X.collect_which A0_0 l0_0.length c0_0 l0_0 a1 w _ HR.out ((Below.refl _ w).alloc (Nat.le_refl _) _) HN.out _ _ _ (by simp) (by simp) rfl).mono ?_; rintro e w2 ⟨v, rfl, ho, hb⟩))
 go_ret
 refine ⟨v, rfl, Kd.R_of_own (own_weaken ho (by simp; omega)) (fun _ _ => trivial), ?_⟩
 exact (((((Below.refl _ w).alloc (Nat.le_refl _) _).alloc (by simp) _).alloc (by simp; omega) _)).trans (hb.mono (by simp; omega))

end Go.Proofs.Ytfolonajajideaa.PAll

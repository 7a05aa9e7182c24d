/- NandSteps over numbers and lists. -/
import Derived.Test.YthjjngfbpoapnaaNandSameLaw
import Derived.Test.YthjjngfbpoapnaaNandDone
import Derived.Test.YthjjngfbpoapnaaStepsP
namespace Go.Proofs.Ythjjngfbpoapnaa.X
open Go.RowKit Go.Proofs.Ythjjngfbpoapnaa.PAll Go.Proofs.YthjjngfbpoapnaaW.PrintWords Go.Proofs.YthjjngfbpoapnaaW.PrintLast Go.Proofs.YthjjngfbpoapnaaW.PrintMore
set_option linter.unusedVariables false
set_option linter.unusedSimpArgs false
theorem steps_l0 (zs : List St) (hl : zs.length ≤ 9223372036854775807) (hz : ∀ s ∈ zs, SB s) : ∀ (d i : Nat) (l : List Blk) (br off : Bool) (ops : Int), 12 - i = d → sm l = true → Ev (fun k => clinkerlaw05_NandSteps.l0 k zs (i : Int) l br off ops) true := by
  intro d
  induction d with
  | zero =>
    intro i l br off ops hd hs
    refine Ev.step (fun k => clinkerlaw05_NandSteps.l0.eq_2 ..) ?_
    by_cases h : (i : Int) < (zs.length : Int)
    · exact Ev.ite_pos h (Ev.step (fun k => clinkerlaw05_NandSteps.j1.eq_2 ..) (Ev.ite_neg (not_dec (by omega)) (Ev.have_ rfl (Ev.now true))))
    · exact Ev.ite_neg h (Ev.step (fun k => clinkerlaw05_NandSteps.j1.eq_2 ..) (Ev.ite_neg (by simp) (Ev.have_ rfl (Ev.now true))))
  | succ d ih =>
    intro i l br off ops hd hs
    refine Ev.step (fun k => clinkerlaw05_NandSteps.l0.eq_2 ..) ?_
    by_cases h : (i : Int) < (zs.length : Int)
    case neg => exact Ev.ite_neg h (Ev.step (fun k => clinkerlaw05_NandSteps.j1.eq_2 ..) (Ev.ite_neg (by simp) (Ev.have_ rfl (Ev.now true))))
    refine Ev.ite_pos h (Ev.step (fun k => clinkerlaw05_NandSteps.j1.eq_2 ..) (Ev.ite_pos (decide_eq_true (by omega)) (Ev.ite_pos (by omega) (Ev.ite_pos h ?_))))
    obtain ⟨v, off', b', p', hv, hd'⟩ := done_ev hs br off ops (hz _ (rd_mem h))
    obtain ⟨fk, fn, hf⟩ := fate_f (rd_T37 zs (i : Int)).f0 (rd_T37 zs (i : Int)).f1 (rd_T37 zs (i : Int)).f2 (rd_T37 zs (i : Int)).f3 (rd_T37 zs (i : Int)).f4 (rd_T37 zs (i : Int)).f5
    have hi : wrap64 ((i : Int) + 1) = ((i + 1 : Nat) : Int) := by rw [wrap64_in (by omega) (by omega)]; omega
    rw [hi]
    exact Ev.bind hv (Ev.have_ hf (Ev.have_ (same_all hs ..) (Ev.ite_pos rfl (ih (i + 1) _ _ _ _ (by omega) (hd'.sm hs)))))
theorem law_NandSteps (zs : List St) (a1 a2 : Int) (hl : zs.length ≤ 9223372036854775807) (hz : ∀ s ∈ zs, SB s) (h1 : 0 ≤ a1 ∧ a1 ≤ 255) (h2 : 0 ≤ a2 ∧ a2 ≤ 255) : ∃ k, clinkerlaw05_NandSteps.f k zs a1 a2 = some true := by
  refine Ev.rounds (g := fun k => clinkerlaw05_NandSteps.f k zs a1 a2) ?_
  unfold clinkerlaw05_NandSteps.f
  exact Ev.have_ rfl (steps_l0 zs hl hz 12 0 _ _ _ _ rfl (sm_new ..))
end Go.Proofs.Ythjjngfbpoapnaa.X

/- NandNew over numbers and lists. -/
import Derived.Test.YthjjngfbpoapnaaNandPure
import Derived.Test.YthjjngfbpoapnaaPAllx5
namespace Go.Proofs.Ythjjngfbpoapnaa.X
open Go.RowKit Go.Proofs.Ythjjngfbpoapnaa.PAll Go.Proofs.YthjjngfbpoapnaaW.PrintWords Go.Proofs.YthjjngfbpoapnaaW.PrintLast Go.Proofs.YthjjngfbpoapnaaW.PrintMore
set_option linter.unusedVariables false
set_option linter.unusedSimpArgs false
theorem new_loop (a0 a1 : Int) (l2 : List Int) (a3 a4 : Int) (l5 : List Int) (hl : l5.length ≤ 100) : ∀ (d i : Nat) (few : List Int), l5.length - i = d → few.length = i →
    Ev (fun k => clinkerlaw05_NandNew.l0 k a0 a1 l2 a3 a4 l5 few (i : Int)) true := by
  intro d
  induction d with
  | zero =>
    intro i few hd hf
    refine Ev.step (fun k => clinkerlaw05_NandNew.l0.eq_2 ..) (Ev.ite_neg (by omega) ?_)
    refine Ev.have_ rfl (Ev.have_ rfl (Ev.have_ rfl (Ev.have_ rfl (Ev.have_ rfl (Ev.ite_pos rfl (Ev.have_ (same_self _ _ _ _) (Ev.ite_pos rfl (Ev.ite_pos rfl (Ev.have_ (same_self _ _ _ _) (Ev.ite_pos rfl ?_))))))))))
    rw [beq_self_eq_true]
    exact Ev.now true
  | succ d ih =>
    intro i few hd hf
    refine Ev.step (fun k => clinkerlaw05_NandNew.l0.eq_2 ..) (Ev.ite_pos (by omega) (Ev.ite_pos (by omega) (Ev.ite_pos (by omega) ?_)))
    rw [show wrap64 ((i : Int) + 1) = ((i + 1 : Nat) : Int) by rw [wrap64_in (by omega) (by omega)]; omega]
    exact ih (i + 1) _ (by omega) (by simp [hf])
theorem law_NandNew : clinkerlaw05_NandNew.Pure := by
  intro a0 a1 l2 a3 a4 l5 _ _ _ _ _ _ _ _ _ _
  refine Ev.rounds (g := fun k => clinkerlaw05_NandNew.f k a0 a1 l2 a3 a4 l5) ?_
  unfold clinkerlaw05_NandNew.f
  by_cases h : (l2.length : Int) > 100
  · exact Ev.ite_pos h (Ev.step (fun k => clinkerlaw05_NandNew.j0.eq_2 ..) (Ev.ite_pos rfl (Ev.have_ rfl (Ev.now true))))
  · refine Ev.ite_neg h (Ev.step (fun k => clinkerlaw05_NandNew.j0.eq_2 ..) ?_)
    by_cases h5 : (l5.length : Int) > 100
    · exact Ev.ite_pos (decide_eq_true h5) (Ev.have_ rfl (Ev.now true))
    · exact Ev.ite_neg (not_dec h5) (new_loop a0 a1 l2 a3 a4 l5 (by omega) _ 0 [] rfl rfl)
end Go.Proofs.Ythjjngfbpoapnaa.X

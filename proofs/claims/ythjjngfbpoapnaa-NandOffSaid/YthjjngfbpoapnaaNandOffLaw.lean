/- NandOff over numbers and lists: a chip that is Off stays as it is. -/
import Derived.Test.YthjjngfbpoapnaaNandDone
import Derived.Test.YthjjngfbpoapnaaPAllx17
namespace Go.Proofs.Ythjjngfbpoapnaa.X
open Go.RowKit Go.Proofs.Ythjjngfbpoapnaa.PAll Go.Proofs.YthjjngfbpoapnaaW.PrintWords Go.Proofs.YthjjngfbpoapnaaW.PrintLast Go.Proofs.YthjjngfbpoapnaaW.PrintMore
set_option linter.unusedVariables false
set_option linter.unusedSimpArgs false
theorem off_j1 {l : List Blk} (hs : sm l = true) (br off : Bool) (ops b p : Int) : Ev (fun k => clinkerlaw05_NandOff.j1 k b p true l br off ops) true := by
  refine Ev.step (fun k => clinkerlaw05_NandOff.j1.eq_2 ..) ?_
  refine Ev.have_ (on_f hs ..) (Ev.have_ (show clinkerref05_Own.f l br false ops = some (l, br, false, ops) from if_pos hs) (Ev.have_ (prog_f hs ..) (Ev.have_ (era_f hs ..) (Ev.have_ (read_f hs ..) ?_))))
  refine Ev.ite_pos rfl (Ev.ite_pos rfl (Ev.ite_pos rfl (Ev.ite_pos rfl (Ev.ite_neg (show ¬ (false = true) by simp) ?_))))
  exact Ev.have_ (same_self l br true ops) (Ev.ite_pos rfl (Ev.have_ (same_self l br true ops) (Ev.ite_pos rfl (Ev.have_ rfl (Ev.have_ (same_self l br false ops) (Ev.now true))))))
theorem off_l0 (zs : List St) (hl : zs.length ≤ 9223372036854775807) (hz : ∀ s ∈ zs, SB s) (b p : Int) : ∀ (d i : Nat) (l : List Blk) (br off : Bool) (ops : Int), 12 - i = d → sm l = true → Ev (fun k => clinkerlaw05_NandOff.l0 k zs b p true (i : Int) l br off ops) true := by
  intro d
  induction d with
  | zero =>
    intro i l br off ops hd hs
    refine Ev.step (fun k => clinkerlaw05_NandOff.l0.eq_2 ..) ?_
    by_cases h : (i : Int) < (zs.length : Int)
    · exact Ev.ite_pos h (Ev.ite_neg (by omega) (off_j1 hs ..))
    · exact Ev.ite_neg h (off_j1 hs ..)
  | succ d ih =>
    intro i l br off ops hd hs
    refine Ev.step (fun k => clinkerlaw05_NandOff.l0.eq_2 ..) ?_
    by_cases h : (i : Int) < (zs.length : Int)
    case neg => exact Ev.ite_neg h (off_j1 hs ..)
    obtain ⟨v, off', b', p', hv, hd⟩ := done_ev hs br off ops (hz _ (rd_mem h))
    have hi : wrap64 ((i : Int) + 1) = ((i + 1 : Nat) : Int) := by rw [wrap64_in (by omega) (by omega)]; omega
    rw [hi]
    exact Ev.ite_pos h (Ev.ite_pos (by omega) (Ev.ite_pos (by omega) (Ev.bind hv (ih (i + 1) _ _ _ _ (by omega) (hd.sm hs)))))
theorem law_NandOff (zs : List St) (a1 a2 a3 : Int) (hl : zs.length ≤ 9223372036854775807) (hz : ∀ s ∈ zs, SB s) (h1 : 0 ≤ a1 ∧ a1 ≤ 255) (h2 : 0 ≤ a2 ∧ a2 ≤ 255) (h3 : 0 ≤ a3 ∧ a3 ≤ 255) : ∃ k, clinkerlaw05_NandOff.f k zs a1 a2 a3 = some true := by
  refine Ev.rounds (g := fun k => clinkerlaw05_NandOff.f k zs a1 a2 a3) ?_
  unfold clinkerlaw05_NandOff.f
  exact Ev.have_ rfl (Ev.ite_pos rfl (Ev.have_ rfl (off_l0 zs hl hz a2 a3 12 0 _ _ _ _ rfl (sm_new ..))))
end Go.Proofs.Ythjjngfbpoapnaa.X

/- NandAny over numbers and lists. -/
import Derived.Test.YthjjngfbpoapnaaNandSameLaw
import Derived.Test.YthjjngfbpoapnaaAnyP
namespace Go.Proofs.Ythjjngfbpoapnaa.X
open Go.RowKit Go.Proofs.Ythjjngfbpoapnaa.PAll Go.Proofs.YthjjngfbpoapnaaW.PrintWords Go.Proofs.YthjjngfbpoapnaaW.PrintLast Go.Proofs.YthjjngfbpoapnaaW.PrintMore
set_option linter.unusedVariables false
set_option linter.unusedSimpArgs false
theorem any_l0 (l : List Blk) (hl : l.length ≤ 40) (br off : Bool) (ops b p : Int) (pw : Bool) (d t : ByteArray) (kind : Int) (fd ft : ByteArray) (n : Int) :
    ∀ (m i : Nat), l.length - i = m → (∀ (j : Nat) (x : Blk), j < i → l[j]? = some x → x.f0.length ≤ 40) → Ev (fun k => clinkerlaw05_NandAny.l0 k b p (i : Int) l br off ops pw d t kind fd ft n) true := by
  intro m
  induction m with
  | zero =>
    intro i hm hi
    have hs : sm l = true := sm_iff.2 ⟨by omega, fun x hx => by
      obtain ⟨j, hj, rfl⟩ := List.getElem_of_mem hx
      have := hi j _ (by omega) (List.getElem?_eq_getElem hj)
      omega⟩
    exact Ev.step (fun k => clinkerlaw05_NandAny.l0.eq_2 ..) (Ev.ite_neg (by omega) (Ev.have_ rfl (Ev.ite_pos rfl (Ev.have_ (same_all hs ..) (Ev.now true)))))
  | succ m ih =>
    intro i hm hi
    refine Ev.step (fun k => clinkerlaw05_NandAny.l0.eq_2 ..) (Ev.ite_pos (by omega) (Ev.ite_pos (by omega) ?_))
    by_cases h : (((rd_T44 l (i : Int)).f0).length : Int) > 40
    · exact Ev.ite_pos h (Ev.have_ rfl (Ev.now true))
    · refine Ev.ite_neg h ?_
      rw [show wrap64 ((i : Int) + 1) = ((i + 1 : Nat) : Int) by rw [wrap64_in (by omega) (by omega)]; omega]
      refine ih (i + 1) (by omega) fun j x hj hx => ?_
      by_cases hji : j < i
      · exact hi j x hji hx
      · obtain rfl : j = i := by omega
        have hr : rd_T44 l (j : Int) = x := by
          show l.getD (j : Int).toNat _ = x
          rw [Int.toNat_natCast, List.getD_eq_getElem?_getD, hx]
          rfl
        rw [hr] at h
        omega
theorem law_NandAny (l : List Blk) (br off : Bool) (ops b p : Int) (pw : Bool) (d t : ByteArray) (kind : Int) (fd ft : ByteArray) (n : Int) : ∃ k, clinkerlaw05_NandAny.f k l br off ops b p pw d t kind fd ft n = some true := by
  refine Ev.rounds (g := fun k => clinkerlaw05_NandAny.f k l br off ops b p pw d t kind fd ft n) ?_
  unfold clinkerlaw05_NandAny.f
  by_cases h : (l.length : Int) > 40
  · exact Ev.ite_pos h (Ev.have_ rfl (Ev.now true))
  · exact Ev.ite_neg h (any_l0 l (by omega) br off ops b p pw d t kind fd ft n _ 0 rfl (fun j x hj => by omega))
end Go.Proofs.Ythjjngfbpoapnaa.X

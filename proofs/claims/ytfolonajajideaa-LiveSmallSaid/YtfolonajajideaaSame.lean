/- Two lists of whole numbers that are the same. -/
import Derived.Test.YtfolonajajideaaBase
import Derived.Test.YtfolonajajideaaPAllx
namespace Go.Proofs.Ytfolonajajideaa.X
open Go.RowKit Go.Proofs.Ytfolonajajideaa.PAll Go.Proofs.YtfolonajajideaaW.PrintWords Go.Proofs.YtfolonajajideaaW.PrintLast Go.Proofs.YtfolonajajideaaW.PrintMore

theorem drop_rd (l : List Int) (i : Nat) (h : i < l.length) : l.drop i = rd l (i : Int) :: l.drop (i + 1) := by
  rw [List.drop_eq_getElem_cons h]
  congr 1
  unfold rd
  rw [Int.toNat_natCast, List.getD_eq_getElem?_getD, List.getElem?_eq_getElem h]
  rfl
/-! Two lists that are the same -/
theorem same_l0 (l : List Int) (hl : l.length ≤ 9223372036854775806) : ∀ (d i : Nat), i + d = l.length → Ev (fun k => clinkerref02_Same.l0 k l l (i : Int)) true
  | 0, i, hi => Ev.step (fun k => clinkerref02_Same.l0.eq_2 ..) (Ev.ite_neg (by omega) (Ev.now _))
  | d + 1, i, hi => by
    have ih := same_l0 l hl d (i + 1) (by omega)
    refine Ev.step (fun k => clinkerref02_Same.l0.eq_2 ..) (Ev.ite_pos (by omega) (Ev.ite_pos (by omega) (Ev.ite_pos (by omega) (Ev.ite_pos rfl ?_))))
    rw [wrap64_in (by omega) (by omega)]
    exact ih
theorem same_ev (l : List Int) (hl : l.length ≤ 9223372036854775806) : Ev (fun k => clinkerref02_Same.f k l l) true :=
  Ev.ite_pos rfl (same_l0 l hl l.length 0 (by omega))

end Go.Proofs.Ytfolonajajideaa.X

/- What is wanted by a table: the printed functions come to the plain words. -/
import Derived.Test.YtfolonajajideaaRepEnc
import Derived.Test.YtfolonajajideaaLiveWalk
import Derived.Test.YtfolonajajideaaLiveCount
import Derived.Test.YtfolonajajideaaPAllx2
import Derived.Test.YtfolonajajideaaPAllx3
import Derived.Test.YtfolonajajideaaPAllx4
import Derived.Test.YtfolonajajideaaPAllx5
import Derived.Test.YtfolonajajideaaPAllx6
import Derived.Test.YtfolonajajideaaPAllx19
namespace Go.Proofs.Ytfolonajajideaa.X
open Go.RowKit Go.Proofs.Ytfolonajajideaa.PAll Go.Proofs.YtfolonajajideaaW.PrintWords Go.Proofs.YtfolonajajideaaW.PrintLast Go.Proofs.YtfolonajajideaaW.PrintMore
set_option linter.unusedVariables false
set_option linter.unusedSimpArgs false
/-! Two lists that are the same -/
theorem same_l0 (l : List Int) (hl : l.length ≤ 9223372036854775806) : ∀ (d i : Nat), i + d = l.length → Ev (fun k => clinkerref02_Same.l0 k l l (i : Int)) true
  | 0, i, hi => Ev.step (fun k => clinkerref02_Same.l0.eq_2 ..) (Ev.ite_neg (by omega) (Ev.now _))
  | d + 1, i, hi => by
    have ih := same_l0 l hl d (i + 1) (by omega)
    refine Ev.step (fun k => clinkerref02_Same.l0.eq_2 ..) (Ev.ite_pos (by omega) (Ev.ite_pos (by omega) (Ev.ite_pos (by omega) (Ev.ite_pos rfl ?_))))
    rw [wrap64_in (by omega) (by omega)]
    exact ih
theorem same_ev (l : List Int) (hl : l.length ≤ 9223372036854775806) : Ev (fun k => clinkerref02_Same.f k l l) true :=
  Ev.ite_pos rfl (same_l0 l hl l.length 0 (by omega))

open Go.RowKit Go.Proofs.Ytfolonajajideaa.PAll Go.Proofs.YtfolonajajideaaW.PrintWords Go.Proofs.YtfolonajajideaaW.PrintLast Go.Proofs.YtfolonajajideaaW.PrintMore
def big : Nat := 17592186044416
theorem rd_get (l : List Int) (i : Nat) : rd l (i : Int) = l[i]?.getD 0 := by
  unfold rd
  rw [Int.toNat_natCast, List.getD_eq_getElem?_getD]
theorem wrap_succ {i : Nat} (h : i < 9223372036854775807) : wrap64 ((i : Int) + 1) = ((i + 1 : Nat) : Int) := by
  rw [wrap64_in (by omega) (by omega)]
  omega

theorem index_l0 (l : List Int) (a : Int) (hl : l.length ≤ big) : ∀ (d i : Nat), i + d = l.length →
    ∃ r : Int, decide (r ≥ 0) = (l.drop i).contains a ∧ Ev (fun k => slices_Index_int_int.l0 k l a (l.length : Int) (i : Int)) r
  | 0, i, hi => ⟨-1, by rw [List.drop_eq_nil_of_le (by omega)]; rfl, Ev.step (fun k => slices_Index_int_int.l0.eq_2 ..) (Ev.ite_neg (by omega) (Ev.now _))⟩
  | d + 1, i, hi => by
    obtain ⟨r, hr, ih⟩ := index_l0 l a hl d (i + 1) (by omega)
    unfold big at hl
    have hd := drop_rd l i (by omega)
    by_cases he : a = rd l (i : Int)
    · refine ⟨(i : Int), ?_, Ev.step (fun k => slices_Index_int_int.l0.eq_2 ..) (Ev.ite_pos (by omega) (Ev.ite_pos (by omega) (Ev.ite_pos (by omega) (Ev.ite_pos he (Ev.now _)))))⟩
      rw [hd, List.contains_cons, he, beq_self_eq_true, Bool.true_or]
      exact decide_eq_true (by omega)
    · refine ⟨r, ?_, Ev.step (fun k => slices_Index_int_int.l0.eq_2 ..) (Ev.ite_pos (by omega) (Ev.ite_pos (by omega) (Ev.ite_pos (by omega) (Ev.ite_neg he ?_))))⟩
      · rw [hd, List.contains_cons, beq_eq_false_iff_ne.mpr he, Bool.false_or]
        exact hr
      · rw [wrap_succ (by omega)]
        exact ih
theorem contains_ev (l : List Int) (a : Int) (hl : l.length ≤ big) : Ev (fun k => slices_Contains_int_int.f k l a) (l.contains a) := by
  obtain ⟨r, hr, h⟩ := index_l0 l a hl l.length 0 (by omega)
  rw [List.drop_zero] at hr
  rw [← hr]
  exact Ev.bind h (Ev.now _)

/-- Is a page wanted? -/
def liveB (l0 l1 : List Int) (a : Int) : Bool := decide (0 ≤ a) && (l0.contains a || l1.contains a)
theorem live_ev (l0 l1 : List Int) (a : Int) (h0 : l0.length ≤ big) (h1 : l1.length ≤ big) : Ev (fun k => live_Live.f k l0 l1 a) (liveB l0 l1 a) := by
  unfold live_Live.f liveB
  by_cases ha : a ≥ 0
  · refine Ev.ite_pos ha (Ev.bind (contains_ev l0 a h0) ?_)
    rw [decide_eq_true (show 0 ≤ a from ha), Bool.true_and]
    cases l0.contains a
    · exact Ev.ite_neg (by simp) (Ev.bind (contains_ev l1 a h1) (by rw [Bool.false_or]; exact Ev.now _))
    · exact Ev.ite_pos rfl (Ev.now _)
  · refine Ev.ite_neg ha ?_
    rw [decide_eq_false (show ¬ 0 ≤ a from ha), Bool.false_and]
    exact Ev.now _
theorem mem_idxTo {zs : List Int} {p : Int} {k : Nat} {x : Int} : x ∈ idxTo zs p k ↔ ∃ i : Nat, i < k ∧ x = (i : Int) ∧ 0 ≤ p ∧ zs[i]?.getD 0 = p := by
  unfold idxTo
  rw [List.mem_map]
  constructor
  · rintro ⟨i, hi, rfl⟩
    rw [List.mem_filter, List.mem_range, Bool.and_eq_true, decide_eq_true_iff, beq_iff_eq] at hi
    exact ⟨i, hi.1, rfl, hi.2.1, hi.2.2⟩
  · rintro ⟨i, h1, rfl, h2, h3⟩
    refine ⟨i, ?_, rfl⟩
    rw [List.mem_filter, List.mem_range, Bool.and_eq_true, decide_eq_true_iff, beq_iff_eq]
    exact ⟨h1, h2, h3⟩
theorem count_eq (l0 l1 : List Int) (b : Int) (h0 : l0.length ≤ big) (h1 : l1.length ≤ big) : live_Count.f l0 l1 b = some ((cntB l0 l1 b : Nat) : Int) := by
  unfold live_Count.f
  unfold big at h0 h1
  rw [if_pos ⟨h0, h1⟩]
theorem owners_eq (l0 l1 : List Int) (a : Int) (h0 : l0.length ≤ big) : live_Owners.f l0 l1 a = some (idxTo l0 a l0.length) := by
  unfold live_Owners.f
  unfold big at h0
  rw [if_pos h0]
theorem says_eq (l0 l1 : List Int) (a : Int) (h1 : l1.length ≤ big) : live_Says.f l0 l1 a = some (idxTo l1 a l1.length) := by
  unfold live_Says.f
  unfold big at h1
  rw [if_pos h1]
theorem awake_ev : Ev (fun k => clinkerlaw08_awake.f k) true := by
  unfold clinkerlaw08_awake.f
  have h0 : ([5, -1, 5] : List Int).length ≤ big := by decide
  have h1 : ([5, 6, 7] : List Int).length ≤ big := by decide
  refine Ev.pure_ (Ev.pure_ ?_)
  rw [owners_eq _ _ 5 h0, owners_eq _ _ (-1) h0, says_eq _ _ 6 h1, count_eq _ _ 0 h0 h1, count_eq _ _ 1 h0 h1]
  have e1 : idxTo [5, -1, 5] 5 3 = [0, 2] := by decide
  have e2 : idxTo [5, 6, 7] 6 3 = [1] := by decide
  have e3 : idxTo [5, -1, 5] (-1) 3 = [] := by decide
  have e4 : cntB [5, -1, 5] [5, 6, 7] 0 = 3 := by decide
  have e5 : cntB [5, -1, 5] [5, 6, 7] 1 = 0 := by decide
  have l1 := live_ev [5, -1, 5] [5, 6, 7] 7 h0 h1
  have l2 := live_ev [5, -1, 5] [5, 6, 7] 8 h0 h1
  rw [show liveB [5, -1, 5] [5, 6, 7] 7 = true by decide] at l1
  rw [show liveB [5, -1, 5] [5, 6, 7] 8 = false by decide] at l2
  rw [show ([5, -1, 5] : List Int).length = 3 from rfl, show ([5, 6, 7] : List Int).length = 3 from rfl, e1, e2, e3, e4, e5]
  refine Ev.pure_ (Ev.bind (same_ev [0, 2] (by decide)) (Ev.ite_pos rfl (Ev.pure_ (Ev.bind (same_ev [1] (by decide)) (Ev.ite_pos rfl (Ev.pure_ (Ev.ite_pos rfl (Ev.bind l1 (Ev.ite_pos rfl (Ev.bind l2 (Ev.ite_neg (by simp) (Ev.pure_ (Ev.ite_pos rfl (Ev.pure_ ?_))))))))))))))
  exact Ev.now true

open Go.RowKit Go.Proofs.Ytfolonajajideaa.PAll Go.Proofs.YtfolonajajideaaW.PrintWords Go.Proofs.YtfolonajajideaaW.PrintLast Go.Proofs.YtfolonajajideaaW.PrintMore
end Go.Proofs.Ytfolonajajideaa.X


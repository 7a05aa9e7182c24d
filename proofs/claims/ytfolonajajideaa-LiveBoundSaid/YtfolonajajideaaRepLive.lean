/- What is wanted by a table: the printed functions come to the plain words. -/
import Derived.Test.YtfolonajajideaaRepEnc
import Derived.Test.YtfolonajajideaaLiveWalk
import Derived.Test.YtfolonajajideaaLiveCount
import Derived.Test.YtfolonajajideaaPAllx2
import Derived.Test.YtfolonajajideaaPAllx3
import Derived.Test.YtfolonajajideaaPAllx4
import Derived.Test.YtfolonajajideaaPAllx5
import Derived.Test.YtfolonajajideaaPAllx6
import Derived.Test.YtfolonajajideaaPAllx19
import Derived.Test.YtfolonajajideaaPAllx20
namespace Go.Proofs.Ytfolonajajideaa.X
open Go.RowKit Go.Proofs.Ytfolonajajideaa.PAll Go.Proofs.YtfolonajajideaaW.PrintWords Go.Proofs.YtfolonajajideaaW.PrintLast Go.Proofs.YtfolonajajideaaW.PrintMore
set_option linter.unusedVariables false
set_option linter.unusedSimpArgs false
/-! Two lists that are the same -/
theorem same_l0 (l : List Int) (hl : l.length ≤ 9223372036854775806) : ∀ (d i : Nat), i + d = l.length → Ev (fun k => clinkerref02_Same.l0 k l l (i : Int)) true
  | 0, i, hi => Ev.step (fun k => clinkerref02_Same.l0.eq_2 ..) (Ev.ite_neg (by omega) (Ev.now _))
  | d + 1, i, hi => by
    have ih := same_l0 l hl d (i + 1) (by omega)
    refine Ev.step (fun k => clinkerref02_Same.l0.eq_2 ..) (Ev.ite_pos (by omega) (Ev.ite_pos (by omega) (Ev.ite_pos (by omega) (Ev.ite_pos rfl ?_))))
    rw [wrap64_in (by omega) (by omega)]
    exact ih
theorem same_ev (l : List Int) (hl : l.length ≤ 9223372036854775806) : Ev (fun k => clinkerref02_Same.f k l l) true :=
  Ev.ite_pos rfl (same_l0 l hl l.length 0 (by omega))

open Go.RowKit Go.Proofs.Ytfolonajajideaa.PAll Go.Proofs.YtfolonajajideaaW.PrintWords Go.Proofs.YtfolonajajideaaW.PrintLast Go.Proofs.YtfolonajajideaaW.PrintMore
def big : Nat := 17592186044416
theorem rd_get (l : List Int) (i : Nat) : rd l (i : Int) = l[i]?.getD 0 := by
  unfold rd
  rw [Int.toNat_natCast, List.getD_eq_getElem?_getD]
theorem idxTo_neg {zs : List Int} {p : Int} (h : ¬ 0 ≤ p) (k : Nat) : idxTo zs p k = [] := by
  induction k with
  | zero => rfl
  | succ k ih => rw [idxTo_miss (fun h2 => h h2.1), ih]
theorem wrap_succ {i : Nat} (h : i < 9223372036854775807) : wrap64 ((i : Int) + 1) = ((i + 1 : Nat) : Int) := by
  rw [wrap64_in (by omega) (by omega)]
  omega

theorem which_l0 (l : List Int) (p : Int) (hl : l.length ≤ big) : ∀ (d i : Nat), i + d = l.length →
    Ev (fun k => clinkerref08_which.l0 k l p (idxTo l p i) (i : Int)) (idxTo l p l.length)
  | 0, i, hi => by
    obtain rfl : i = l.length := by omega
    refine Ev.step (fun k => clinkerref08_which.l0.eq_2 ..) (Ev.ite_neg (by omega) (Ev.step (fun k => clinkerref08_which.j1.eq_2 ..) (Ev.ite_neg (by simp) (Ev.now _))))
  | d + 1, i, hi => by
    have ih := which_l0 l p hl d (i + 1) (by omega)
    unfold big at hl
    refine Ev.step (fun k => clinkerref08_which.l0.eq_2 ..) (Ev.ite_pos (by omega) (Ev.step (fun k => clinkerref08_which.j1.eq_2 ..) ?_))
    by_cases hp : 0 ≤ p
    · refine Ev.ite_pos (decide_eq_true hp) (Ev.ite_pos (by omega) (Ev.ite_pos (by omega) ?_))
      rw [rd_get, wrap_succ (by omega)]
      by_cases he : l[i]?.getD 0 = p
      · rw [idxTo_hit hp he] at ih
        have := idxTo_length l p i
        exact Ev.ite_pos he (Ev.ite_pos (by omega) ih)
      · rw [idxTo_miss (fun h => he h.2)] at ih
        exact Ev.ite_neg he ih
    · refine Ev.ite_neg (not_dec hp) ?_
      rw [idxTo_neg hp, idxTo_neg hp]
      exact Ev.now _
theorem which_ev (l : List Int) (p : Int) (hl : l.length ≤ big) : Ev (fun k => clinkerref08_which.f k l p) (idxTo l p l.length) :=
  which_l0 l p hl l.length 0 (by omega)

theorem index_l0 (l : List Int) (a : Int) (hl : l.length ≤ big) : ∀ (d i : Nat), i + d = l.length →
    ∃ r : Int, decide (r ≥ 0) = (l.drop i).contains a ∧ Ev (fun k => slices_Index_int_int.l0 k l a (l.length : Int) (i : Int)) r
  | 0, i, hi => ⟨-1, by rw [List.drop_eq_nil_of_le (by omega)]; rfl, Ev.step (fun k => slices_Index_int_int.l0.eq_2 ..) (Ev.ite_neg (by omega) (Ev.now _))⟩
  | d + 1, i, hi => by
    obtain ⟨r, hr, ih⟩ := index_l0 l a hl d (i + 1) (by omega)
    unfold big at hl
    have hd := drop_rd l i (by omega)
    by_cases he : a = rd l (i : Int)
    · refine ⟨(i : Int), ?_, Ev.step (fun k => slices_Index_int_int.l0.eq_2 ..) (Ev.ite_pos (by omega) (Ev.ite_pos (by omega) (Ev.ite_pos (by omega) (Ev.ite_pos he (Ev.now _)))))⟩
      rw [hd, List.contains_cons, he, beq_self_eq_true, Bool.true_or]
      exact decide_eq_true (by omega)
    · refine ⟨r, ?_, Ev.step (fun k => slices_Index_int_int.l0.eq_2 ..) (Ev.ite_pos (by omega) (Ev.ite_pos (by omega) (Ev.ite_pos (by omega) (Ev.ite_neg he ?_))))⟩
      · rw [hd, List.contains_cons, beq_eq_false_iff_ne.mpr he, Bool.false_or]
        exact hr
      · rw [wrap_succ (by omega)]
        exact ih
theorem contains_ev (l : List Int) (a : Int) (hl : l.length ≤ big) : Ev (fun k => slices_Contains_int_int.f k l a) (l.contains a) := by
  obtain ⟨r, hr, h⟩ := index_l0 l a hl l.length 0 (by omega)
  rw [List.drop_zero] at hr
  rw [← hr]
  exact Ev.bind h (Ev.now _)

/-- Is a page wanted? -/
def liveB (l0 l1 : List Int) (a : Int) : Bool := decide (0 ≤ a) && (l0.contains a || l1.contains a)
theorem live_ev (l0 l1 : List Int) (a : Int) (h0 : l0.length ≤ big) (h1 : l1.length ≤ big) : Ev (fun k => live_Live.f k l0 l1 a) (liveB l0 l1 a) := by
  unfold live_Live.f liveB
  by_cases ha : a ≥ 0
  · refine Ev.ite_pos ha (Ev.bind (contains_ev l0 a h0) ?_)
    rw [decide_eq_true (show 0 ≤ a from ha), Bool.true_and]
    cases l0.contains a
    · exact Ev.ite_neg (by simp) (Ev.bind (contains_ev l1 a h1) (by rw [Bool.false_or]; exact Ev.now _))
    · exact Ev.ite_pos rfl (Ev.now _)
  · refine Ev.ite_neg ha ?_
    rw [decide_eq_false (show ¬ 0 ≤ a from ha), Bool.false_and]
    exact Ev.now _
theorem mem_idxTo {zs : List Int} {p : Int} {k : Nat} {x : Int} : x ∈ idxTo zs p k ↔ ∃ i : Nat, i < k ∧ x = (i : Int) ∧ 0 ≤ p ∧ zs[i]?.getD 0 = p := by
  unfold idxTo
  rw [List.mem_map]
  constructor
  · rintro ⟨i, hi, rfl⟩
    rw [List.mem_filter, List.mem_range, Bool.and_eq_true, decide_eq_true_iff, beq_iff_eq] at hi
    exact ⟨i, hi.1, rfl, hi.2.1, hi.2.2⟩
  · rintro ⟨i, h1, rfl, h2, h3⟩
    refine ⟨i, ?_, rfl⟩
    rw [List.mem_filter, List.mem_range, Bool.and_eq_true, decide_eq_true_iff, beq_iff_eq]
    exact ⟨h1, h2, h3⟩
theorem idxTo_some (zs : List Int) (p : Int) : decide (((idxTo zs p zs.length).length : Int) > 0) = (decide (0 ≤ p) && zs.contains p) := by
  rw [Bool.eq_iff_iff, decide_eq_true_iff, Bool.and_eq_true, decide_eq_true_iff, List.contains_iff_mem]
  constructor
  · intro h
    obtain ⟨x, hx⟩ := List.exists_mem_of_length_pos (show 0 < (idxTo zs p zs.length).length by omega)
    obtain ⟨i, h1, _, h2, h3⟩ := mem_idxTo.mp hx
    rw [List.getElem?_eq_getElem h1] at h3
    exact ⟨h2, h3 ▸ List.getElem_mem h1⟩
  · rintro ⟨h1, h2⟩
    obtain ⟨i, hi, e⟩ := List.mem_iff_getElem.mp h2
    have : ((i : Int)) ∈ idxTo zs p zs.length := mem_idxTo.mpr ⟨i, hi, rfl, h1, by rw [List.getElem?_eq_getElem hi]; exact e⟩
    have := List.length_pos_of_mem this
    omega
theorem rlive_ev (l0 l1 : List Int) (a : Int) (h0 : l0.length ≤ big) (h1 : l1.length ≤ big) : Ev (fun k => clinkerref08_Live.f k l0 l1 a) (liveB l0 l1 a) := by
  unfold clinkerref08_Live.f clinkerref08_Owners.f clinkerref08_Says.f liveB
  have e0 := idxTo_some l0 a
  have e1 := idxTo_some l1 a
  refine Ev.bind (Ev.bind (which_ev l0 a h0) (Ev.now _)) ?_
  rw [Bool.and_or_distrib_left, ← e0, ← e1]
  by_cases hc : ((idxTo l0 a l0.length).length : Int) > 0
  · rw [decide_eq_true hc, Bool.true_or]
    exact Ev.ite_pos hc (Ev.now _)
  · rw [decide_eq_false hc, Bool.false_or]
    exact Ev.ite_neg hc (Ev.bind (Ev.bind (which_ev l1 a h1) (Ev.now _)) (Ev.now _))

/-- The wanted ones of the first p pages of block b. -/
def cntTo (l0 l1 : List Int) (b : Int) (p : Nat) : Nat := ((List.range p).filter fun (p : Nat) => (decide (0 ≤ b) && decide (b < 32)) && (l0.contains (16 * b + (p : Int)) || l1.contains (16 * b + (p : Int)))).length
theorem cntTo_le (l0 l1 : List Int) (b : Int) (p : Nat) : cntTo l0 l1 b p ≤ p := by
  unfold cntTo
  have := List.length_filter_le (fun (p : Nat) => (decide (0 ≤ b) && decide (b < 32)) && (l0.contains (16 * b + (p : Int)) || l1.contains (16 * b + (p : Int)))) (List.range p)
  rw [List.length_range] at this
  exact this
theorem cntTo_succ (l0 l1 : List Int) (b : Int) (p : Nat) (h0 : 0 ≤ b) (h1 : b < 32) : cntTo l0 l1 b (p + 1) = cntTo l0 l1 b p + if liveB l0 l1 (16 * b + (p : Int)) = true then 1 else 0 := by
  unfold cntTo liveB
  rw [List.range_succ, List.filter_append, List.length_append]
  congr 1
  rw [decide_eq_true h0, decide_eq_true h1, decide_eq_true (show 0 ≤ 16 * b + (p : Int) by omega)]
  simp only [Bool.true_and]
  split <;> simp_all
theorem rcount_l0 (l0 l1 : List Int) (b : Int) (h0 : l0.length ≤ big) (h1 : l1.length ≤ big) (hb0 : 0 ≤ b) (hb1 : b < 32) : ∀ (d p : Nat), p + d = 16 →
    Ev (fun k => clinkerref08_Count.l0 k b ((cntTo l0 l1 b p : Nat) : Int) (p : Int) l0 l1) ((cntB l0 l1 b : Nat) : Int)
  | 0, p, hp => by
    obtain rfl : p = 16 := by omega
    refine Ev.step (fun k => clinkerref08_Count.l0.eq_2 ..) (Ev.ite_neg (by omega) (Ev.step (fun k => clinkerref08_Count.j1.eq_2 ..) (Ev.ite_neg (by simp) (Ev.now _))))
  | d + 1, p, hp => by
    have ih := rcount_l0 l0 l1 b h0 h1 hb0 hb1 d (p + 1) (by omega)
    have hle := cntTo_le l0 l1 b p
    rw [cntTo_succ l0 l1 b p hb0 hb1] at ih
    have e : wrap64 (wrap64 (b * 16) + (p : Int)) = 16 * b + (p : Int) := by rw [wrap64_in (i := b * 16) (by omega) (by omega), wrap64_in (by omega) (by omega)]; omega
    refine Ev.step (fun k => clinkerref08_Count.l0.eq_2 ..) (Ev.ite_pos (by omega) (Ev.ite_pos hb0 (Ev.step (fun k => clinkerref08_Count.j1.eq_2 ..) (Ev.ite_pos (decide_eq_true hb1) ?_))))
    rw [e, wrap_succ (by omega), wrap_succ (by omega)]
    refine Ev.bind (rlive_ev l0 l1 _ h0 h1) ?_
    by_cases hl : liveB l0 l1 (16 * b + (p : Int)) = true
    · rw [if_pos hl] at ih
      exact Ev.ite_pos hl ih
    · rw [if_neg hl] at ih
      exact Ev.ite_neg hl ih
theorem rcount_ev (l0 l1 : List Int) (b : Int) (h0 : l0.length ≤ big) (h1 : l1.length ≤ big) : Ev (fun k => clinkerref08_Count.f k l0 l1 b) ((cntB l0 l1 b : Nat) : Int) := by
  by_cases hb : 0 ≤ b ∧ b < 32
  · exact rcount_l0 l0 l1 b h0 h1 hb.1 hb.2 16 0 (by omega)
  · have e : cntB l0 l1 b = 0 := by
      unfold cntB
      rw [List.length_eq_zero_iff, List.filter_eq_nil_iff]
      intro p _ h
      simp only [Bool.and_eq_true, decide_eq_true_iff] at h
      exact hb h.1
    rw [e]
    unfold clinkerref08_Count.f
    refine Ev.step (fun k => clinkerref08_Count.l0.eq_2 ..) (Ev.ite_pos (by omega) ?_)
    by_cases h2 : b ≥ 0
    · exact Ev.ite_pos h2 (Ev.step (fun k => clinkerref08_Count.j1.eq_2 ..) (Ev.ite_neg (not_dec (by omega)) (Ev.now _)))
    · exact Ev.ite_neg h2 (Ev.step (fun k => clinkerref08_Count.j1.eq_2 ..) (Ev.ite_neg (by simp) (Ev.now _)))
theorem count_eq (l0 l1 : List Int) (b : Int) (h0 : l0.length ≤ big) (h1 : l1.length ≤ big) : live_Count.f l0 l1 b = some ((cntB l0 l1 b : Nat) : Int) := by
  unfold live_Count.f
  unfold big at h0 h1
  rw [if_pos ⟨h0, h1⟩]
theorem owners_eq (l0 l1 : List Int) (a : Int) (h0 : l0.length ≤ big) : live_Owners.f l0 l1 a = some (idxTo l0 a l0.length) := by
  unfold live_Owners.f
  unfold big at h0
  rw [if_pos h0]
theorem says_eq (l0 l1 : List Int) (a : Int) (h1 : l1.length ≤ big) : live_Says.f l0 l1 a = some (idxTo l1 a l1.length) := by
  unfold live_Says.f
  unfold big at h1
  rw [if_pos h1]
theorem awake_ev : Ev (fun k => clinkerlaw08_awake.f k) true := by
  unfold clinkerlaw08_awake.f
  have h0 : ([5, -1, 5] : List Int).length ≤ big := by decide
  have h1 : ([5, 6, 7] : List Int).length ≤ big := by decide
  refine Ev.pure_ (Ev.pure_ ?_)
  rw [owners_eq _ _ 5 h0, owners_eq _ _ (-1) h0, says_eq _ _ 6 h1, count_eq _ _ 0 h0 h1, count_eq _ _ 1 h0 h1]
  have e1 : idxTo [5, -1, 5] 5 3 = [0, 2] := by decide
  have e2 : idxTo [5, 6, 7] 6 3 = [1] := by decide
  have e3 : idxTo [5, -1, 5] (-1) 3 = [] := by decide
  have e4 : cntB [5, -1, 5] [5, 6, 7] 0 = 3 := by decide
  have e5 : cntB [5, -1, 5] [5, 6, 7] 1 = 0 := by decide
  have l1 := live_ev [5, -1, 5] [5, 6, 7] 7 h0 h1
  have l2 := live_ev [5, -1, 5] [5, 6, 7] 8 h0 h1
  rw [show liveB [5, -1, 5] [5, 6, 7] 7 = true by decide] at l1
  rw [show liveB [5, -1, 5] [5, 6, 7] 8 = false by decide] at l2
  rw [show ([5, -1, 5] : List Int).length = 3 from rfl, show ([5, 6, 7] : List Int).length = 3 from rfl, e1, e2, e3, e4, e5]
  refine Ev.pure_ (Ev.bind (same_ev [0, 2] (by decide)) (Ev.ite_pos rfl (Ev.pure_ (Ev.bind (same_ev [1] (by decide)) (Ev.ite_pos rfl (Ev.pure_ (Ev.ite_pos rfl (Ev.bind l1 (Ev.ite_pos rfl (Ev.bind l2 (Ev.ite_neg (by simp) (Ev.pure_ (Ev.ite_pos rfl (Ev.pure_ ?_))))))))))))))
  exact Ev.now true

open Go.RowKit Go.Proofs.Ytfolonajajideaa.PAll Go.Proofs.YtfolonajajideaaW.PrintWords Go.Proofs.YtfolonajajideaaW.PrintLast Go.Proofs.YtfolonajajideaaW.PrintMore
theorem wf_u8 {a : Int} (h : (Lit.int .u8 a).wf = true) : 0 ≤ a ∧ a ≤ 255 := by
  simp [Lit.wf, IntKind.min, IntKind.max, IntKind.bits, IntKind.signed] at h
  omega
theorem rd_mem {l : List Int} {P : Int → Prop} (h : ∀ x ∈ l, P x) (i : Nat) (hi : i < l.length) : P (rd l (i : Int)) := by
  rw [rd_get, List.getElem?_eq_getElem hi]
  exact h _ (List.getElem_mem hi)
end Go.Proofs.Ytfolonajajideaa.X

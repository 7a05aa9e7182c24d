/- The statement ModelReads over lists. -/
import Derived.Test.YtcahhknehmhlaaaMdR
import Derived.Test.YtcahhknehmhlaaaRdA
namespace Go.Proofs.Ytcahhknehmhlaaa.X
open Go.RowKit Go.Proofs.Ytcahhknehmhlaaa.PAll Go.Proofs.YtcahhknehmhlaaaW.PrintWords Go.Proofs.YtcahhknehmhlaaaW.PrintLast Go.Proofs.YtcahhknehmhlaaaW.PrintMore
theorem pnew_eq (n : Int) : model_New.f n = some (List.replicate (min n.toNat 64) ByteArray.empty) := by
  unfold model_New.f mn mx
  have e : (if 64 < (if n < 0 then 0 else n) then (64 : Int) else (if n < 0 then 0 else n)) = ((min n.toNat 64 : Nat) : Int) := by
    split <;> split <;> omega
  rw [e, if_pos (by omega), Int.toNat_natCast, if_pos (by omega)]
  rfl
abbrev at0 (l : List ByteArray) (s : Nat) : ByteArray := l.getD s ByteArray.empty
theorem setMany_get : ∀ (vs xs : List ByteArray) (i s : Nat), s < xs.length → at0 (setMany xs i vs) s = if i ≤ s ∧ s - i < vs.length then at0 vs (s - i) else at0 xs s
  | [], xs, i, s, h => by
    rw [if_neg (by simp)]
    rfl
  | v :: r, xs, i, s, h => by
    rw [setMany, setMany_get r (xs.set i v) (i + 1) s (by rw [List.length_set]; exact h)]
    by_cases h1 : s < i
    · rw [if_neg (by omega), if_neg (by omega)]
      simp only [at0, List.getD_eq_getElem?_getD]
      rw [List.getElem?_set_ne (by omega)]
    · by_cases h2 : s = i
      · subst h2
        rw [if_neg (by omega), if_pos (by simp)]
        simp only [at0, List.getD_eq_getElem?_getD]
        rw [List.getElem?_set_self h, Nat.sub_self]
        rfl
      · obtain ⟨j, rfl⟩ : ∃ j, s = i + 1 + j := ⟨s - (i + 1), by omega⟩
        have e1 : i + 1 + j - (i + 1) = j := by omega
        have e2 : i + 1 + j - i = j + 1 := by omega
        rw [e1, e2]
        by_cases h3 : j < r.length
        · rw [if_pos ⟨by omega, h3⟩, if_pos ⟨by omega, by simpa using h3⟩]
          rfl
        · rw [if_neg (by omega), if_neg (by simp; omega)]
          simp only [at0, List.getD_eq_getElem?_getD]
          rw [List.getElem?_set_ne (by omega)]
/-- What stands in a sector behind a command. -/
theorem do_at {m : List ByteArray} {kind first count : Int} {data : List ByteArray} (hm : m.length ≤ 64) {s : Nat} (hs : s < m.length) (h : checkV (m.length : Int) kind first count data = 0) :
    at0 (doV m kind first count data).1 s = if first.toNat ≤ s ∧ s - first.toNat < (laid kind count data).length then at0 (laid kind count data) (s - first.toNat) else at0 m s := by
  have hll := laid_len (by omega) h
  have e : (laid kind count data).take ((m.length : Nat) : Int).toNat = laid kind count data := by
    rw [Int.toNat_natCast]
    rcases hll with h1 | ⟨h1, h2⟩
    · rw [h1, List.take_nil]
    · exact List.take_of_length_le (by omega)
  unfold doV
  rw [if_pos h]
  by_cases h1 : kind = 1
  · subst h1
    rw [if_pos rfl, show laid 1 count data = [] from rfl, if_neg (by simp)]
  · rw [if_neg h1, part_laid h, e]
    exact setMany_get _ m _ s hs
theorem do_no {m : List ByteArray} {kind first count : Int} {data : List ByteArray} (h : ¬ (doV m kind first count data).2.1 = 0) : (doV m kind first count data).1 = m := by
  by_cases h1 : checkV (m.length : Int) kind first count data = 0
  · exfalso
    apply h
    unfold doV
    rw [if_pos h1]
    split <;> rfl
  · unfold doV
    rw [if_neg h1]
theorem do_yes {m : List ByteArray} {kind first count : Int} {data : List ByteArray} (h : (doV m kind first count data).2.1 = 0) : checkV (m.length : Int) kind first count data = 0 := by
  by_cases h1 : checkV (m.length : Int) kind first count data = 0
  · exact h1
  · unfold doV at h
    rw [if_neg h1] at h
    exact h
theorem read_one (l : List ByteArray) (hl : l.length ≤ 64) {s : Nat} (hs : s < l.length) : model_Do.f l 1 (s : Int) 1 [] = some (l, 0, [at0 l s]) := by
  rw [mdo_eq l _ _ _ _ (by omega)]
  have hc : checkV (l.length : Int) 1 (s : Int) 1 [] = 0 := by
    unfold checkV
    rw [if_neg (by omega), if_neg (by omega), if_pos (.inl rfl)]
    exact range_ok (by omega) (by omega) (by omega) (by rw [wrap64_in (by omega) (by omega)]; omega)
  unfold doV
  rw [if_pos hc, if_pos rfl, show ((s : Int) + 1).toNat = s + 1 by omega, Int.toNat_natCast, List.take_succ_eq_append_getElem hs, List.drop_append_of_le_length (by rw [List.length_take]; omega), List.drop_of_length_le (by rw [List.length_take]; omega)]
  simp only [at0, List.getD_eq_getElem?_getD, List.getElem?_eq_getElem hs]
  rfl
theorem read_ev (l : List ByteArray) (hl : l.length ≤ 64) {s : Nat} (hs : s < l.length) (X : List UInt8) (hX : (at0 l s).toList = X) (g : Nat → Option Bool) (hg : Ev g true) :
    Ev (fun k => (model_Do.f l 1 (s : Int) 1 ([] : List ByteArray)).bind fun bt => (if (bt.2.2.length : Int) = 1 then (if 0 < (bt.2.2.length : Int) then (if (rdOf ByteArray.empty bt.2.2 0).toList = X then (if bt.2.1 = 0 then g k else (some false)) else (some false)) else (none)) else (some false))) true := by
  rw [read_one l hl hs]
  exact Ev.pure_ (Ev.ite_pos rfl (Ev.ite_pos (by simp) (Ev.ite_pos hX (Ev.ite_pos rfl hg))))
theorem rdOf_at (l : List ByteArray) (s : Nat) : rdOf ByteArray.empty l (s : Int) = at0 l s := by
  unfold rdOf
  rw [Int.toNat_natCast]
set_option maxHeartbeats 1000000 in
theorem reads_l1 (x0 : List (List Int)) (i : Int) (m : List ByteArray) (hm : m.length ≤ 64) (kind first count : Int) (data : List ByteArray) (hf : -1 ≤ first ∧ first ≤ 100) (hd : data.length ≤ 100) (z : List ByteArray)
    (hn : Ev (fun k => clinkerlaw13_ModelReads.l0 k x0 true (doV m kind first count data).1 (wrap64 (i + 1))) true) : ∀ (d s : Nat), s + d = m.length →
    Ev (fun k => clinkerlaw13_ModelReads.l1 k x0 true m i (doV m kind first count data).1 (s : Int) kind first count data (doV m kind first count data).2.1 z) true
  | 0, s, hs => Ev.step (fun k => clinkerlaw13_ModelReads.l1.eq_2 ..) (Ev.ite_neg (by omega) hn)
  | d + 1, s, hs => by
    have ih := reads_l1 x0 i m hm kind first count data hf hd z hn d (s + 1) (by omega)
    rw [← wrap_succ (by omega)] at ih
    have hlen : (doV m kind first count data).1.length = m.length := (do_len ..).1
    have hr := fun X hX => read_ev (doV m kind first count data).1 (by omega) (s := s) (by omega) X hX _ ih
    refine Ev.step (fun k => clinkerlaw13_ModelReads.l1.eq_2 ..) (Ev.ite_pos (by omega) (Ev.ite_pos (by omega) ?_))
    rw [rdOf_at]
    by_cases h0 : (doV m kind first count data).2.1 = 0
    · have hc := do_yes h0
      have ha := do_at hm (show s < m.length by omega) hc
      have hll := laid_len (by omega) hc
      refine Ev.ite_pos h0 (Ev.step (fun k => clinkerlaw13_ModelReads.j3.eq_2 ..) ?_)
      by_cases h1 : (s : Int) ≥ first
      · have ew : wrap64 ((s : Int) - first) = (s : Int) - first := wrap64_in (by omega) (by omega)
        refine Ev.ite_pos (decide_eq_true h1) ?_
        rw [ew]
        by_cases h2 : kind = 2
        · subst h2
          rw [show laid 2 count data = data from rfl] at ha hll
          refine Ev.ite_pos rfl (Ev.step (fun k => clinkerlaw13_ModelReads.j4.eq_2 ..) ?_)
          rw [ew]
          by_cases h3 : (s : Int) - first < (data.length : Int)
          · have hf0 : 0 ≤ first := by
              rcases hll with h | h
              · rw [h] at h3; simp at h3; omega
              · exact h.1
            have es : (s : Int) - first = ((s - first.toNat : Nat) : Int) := by omega
            rw [if_pos ⟨by omega, by omega⟩] at ha
            refine Ev.ite_pos (decide_eq_true h3) (Ev.ite_pos (by omega) (Ev.ite_pos h3 (Ev.step (fun k => clinkerlaw13_ModelReads.j5.eq_2 ..) (Ev.ite_neg (by omega) (Ev.step (fun k => clinkerlaw13_ModelReads.j6.eq_2 ..) (Ev.ite_neg (by simp) ?_))))))
            rw [es, rdOf_at]
            exact hr _ (congrArg ByteArray.toList ha)
          · have ha2 : at0 (doV m 2 first count data).1 s = at0 m s := by
              rw [ha]
              refine if_neg ?_
              rcases hll with h | h
              · rw [h]; simp
              · omega
            exact Ev.ite_neg (not_dec h3) (Ev.step (fun k => clinkerlaw13_ModelReads.j5.eq_2 ..) (Ev.ite_neg (by omega) (Ev.step (fun k => clinkerlaw13_ModelReads.j6.eq_2 ..) (Ev.ite_neg (by simp) (hr _ (congrArg ByteArray.toList ha2))))))
        · refine Ev.ite_neg h2 (Ev.step (fun k => clinkerlaw13_ModelReads.j4.eq_2 ..) (Ev.ite_neg (by simp) (Ev.step (fun k => clinkerlaw13_ModelReads.j5.eq_2 ..) ?_)))
          rw [ew]
          by_cases h4 : kind = 3
          · subst h4
            rw [show laid 3 count data = List.replicate count.toNat ByteArray.empty from rfl] at ha hll
            rw [List.length_replicate] at ha
            refine Ev.ite_pos rfl (Ev.step (fun k => clinkerlaw13_ModelReads.j6.eq_2 ..) ?_)
            by_cases h5 : (s : Int) - first < count
            · have ha2 : at0 (doV m 3 first count data).1 s = ByteArray.empty := by
                rw [ha]
                split
                · simp only [at0, List.getD_eq_getElem?_getD]
                  rw [List.getElem?_replicate]
                  split <;> rfl
                · rename_i hneg
                  exfalso
                  rcases hll with h | h
                  · have := congrArg List.length h
                    rw [List.length_replicate] at this
                    simp at this
                    obtain ⟨mk, _, a, b, c, d⟩ := part_facts (n := (m.length : Int)) (by omega) (by omega) (by omega) hc
                    omega
                  · omega
              refine Ev.ite_pos (decide_eq_true h5) (hr _ ?_)
              rw [ha2, toList_eq]
              rfl
            · have ha2 : at0 (doV m 3 first count data).1 s = at0 m s := by
                rw [ha]
                refine if_neg ?_
                rcases hll with h | h
                · have := congrArg List.length h
                  rw [List.length_replicate] at this
                  simp at this
                  omega
                · omega
              exact Ev.ite_neg (not_dec h5) (hr _ (congrArg ByteArray.toList ha2))
          · have e : laid kind count data = [] := by unfold laid; rw [if_neg h2, if_neg h4]
            rw [e, if_neg (by simp)] at ha
            exact Ev.ite_neg h4 (Ev.step (fun k => clinkerlaw13_ModelReads.j6.eq_2 ..) (Ev.ite_neg (by simp) (hr _ (congrArg ByteArray.toList ha))))
      · have ha2 : at0 (doV m kind first count data).1 s = at0 m s := by
          rw [ha]
          refine if_neg ?_
          rcases hll with h | h
          · rw [h]; simp
          · omega
        exact Ev.ite_neg (not_dec h1) (hr _ (congrArg ByteArray.toList ha2))
    · refine Ev.ite_neg h0 (Ev.step (fun k => clinkerlaw13_ModelReads.j3.eq_2 ..) (Ev.ite_neg (by simp) (hr _ ?_)))
      rw [do_no h0]
theorem madeD_len (l : List Int) : ∀ (n j : Nat) (ds : List ByteArray), (madeD l n j ds).length = ds.length + n
  | 0, _, _ => rfl
  | n + 1, j, ds => by
    rw [madeD, madeD_len l n, List.length_append]
    simp
    omega
theorem madeV_facts (l : List Int) : -1 ≤ (madeV l).2.1 ∧ (madeV l).2.1 ≤ 12 ∧ (madeV l).2.2.2.length ≤ 4 := by
  have h1 := pk_in l 1 (n := 14) (by omega)
  have h2 := pk_in l 3 (n := 5) (by omega)
  unfold madeV
  refine ⟨by dsimp only; omega, by dsimp only; omega, ?_⟩
  dsimp only
  rw [madeD_len]
  simp
  omega
theorem reads_l0 (l : List (List Int)) (hw : ∀ x ∈ l, ∀ y ∈ x, 0 ≤ y ∧ y ≤ 255) (hl : l.length ≤ 9223372036854775807) : ∀ (d i : Nat) (m : List ByteArray), i + d = l.length → m.length ≤ 64 →
    Ev (fun k => clinkerlaw13_ModelReads.l0 k l true m (i : Int)) true
  | 0, i, m, hi, hm => Ev.step (fun k => clinkerlaw13_ModelReads.l0.eq_2 ..) (Ev.ite_neg (by omega) (Ev.step (fun k => clinkerlaw13_ModelReads.j1.eq_2 ..) (Ev.ite_neg (by simp) (Ev.now true))))
  | d + 1, i, m, hi, hm => by
    refine Ev.step (fun k => clinkerlaw13_ModelReads.l0.eq_2 ..) (Ev.ite_pos (by omega) (Ev.step (fun k => clinkerlaw13_ModelReads.j1.eq_2 ..) ?_))
    by_cases h : (i : Int) < 12
    · have hin : rd_L2 l (i : Int) ∈ l := by
        unfold rd_L2
        rw [Int.toNat_natCast, List.getD_eq_getElem?_getD, List.getElem?_eq_getElem (show i < l.length by omega)]
        exact List.getElem_mem _
      refine Ev.ite_pos (decide_eq_true h) (Ev.ite_pos (by omega) (Ev.ite_pos (by omega) ?_))
      unfold clinkerlaw13_Made.f
      rw [if_pos (hw _ hin)]
      obtain ⟨f1, f2, f3⟩ := madeV_facts (rd_L2 l (i : Int))
      refine Ev.pure_ ?_
      rw [mdo_eq m _ _ _ _ (by omega)]
      refine Ev.pure_ (Ev.ite_pos (by rw [(do_len ..).1]) ?_)
      refine reads_l1 l (i : Int) m hm _ _ _ _ ⟨f1, by omega⟩ (by omega) _ ?_ m.length 0 (by omega)
      rw [wrap_succ (by omega)]
      exact reads_l0 l hw hl d (i + 1) _ (by omega) (by rw [(do_len ..).1]; exact hm)
    · exact Ev.ite_neg (not_dec h) (Ev.now true)
theorem law_ModelReads (l : List (List Int)) (hw : ∀ x ∈ l, ∀ y ∈ x, 0 ≤ y ∧ y ≤ 255) (hl : l.length ≤ 9223372036854775807) (a : Int) : ∃ k, clinkerlaw13_ModelReads.f k l a = some true := by
  refine Ev.rounds (g := fun k => clinkerlaw13_ModelReads.f k l a) ?_
  unfold clinkerlaw13_ModelReads.f
  refine Ev.bind awake_ev (Ev.ite_pos rfl ?_)
  rw [pnew_eq]
  exact Ev.pure_ (reads_l0 l hw hl l.length 0 _ (by omega) (by rw [List.length_replicate]; omega))
end Go.Proofs.Ytcahhknehmhlaaa.X

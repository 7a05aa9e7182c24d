/- The statement ModelParts over lists. -/
import Derived.Test.YtcahhknehmhlaaaMdP
import Derived.Test.YtcahhknehmhlaaaPaA
namespace Go.Proofs.Ytcahhknehmhlaaa.X
open Go.RowKit Go.Proofs.Ytcahhknehmhlaaa.PAll Go.Proofs.YtcahhknehmhlaaaW.PrintWords Go.Proofs.YtcahhknehmhlaaaW.PrintLast Go.Proofs.YtcahhknehmhlaaaW.PrintMore
theorem part_at {m : List ByteArray} (hm : m.length = 12) {kind first count : Int} {data : List ByteArray} {n : Int} {s : Nat} (hs : s < 12) :
    at0 (partV m kind first count data n) s = if checkV (m.length : Int) kind first count data = 0 ∧ first.toNat ≤ s ∧ s - first.toNat < n.toNat ∧ s - first.toNat < (laid kind count data).length then at0 (laid kind count data) (s - first.toNat) else at0 m s := by
  by_cases h : checkV (m.length : Int) kind first count data = 0
  · rw [part_laid h, setMany_get _ _ _ _ (by omega)]
    by_cases h2 : first.toNat ≤ s ∧ s - first.toNat < n.toNat ∧ s - first.toNat < (laid kind count data).length
    · rw [if_pos ⟨h2.1, by rw [List.length_take]; omega⟩, if_pos ⟨h, h2⟩]
      simp only [at0, List.getD_eq_getElem?_getD]
      rw [List.getElem?_take_of_lt h2.2.1]
    · rw [if_neg (by rw [List.length_take]; omega), if_neg (fun h3 => h2 h3.2)]
  · rw [part_no h, if_neg (fun h3 => h h3.1)]
section
variable (x0 : List (List Int)) (x1 : Int) (i : Int) (m : List ByteArray) (hm : m.length = 12) (kind first count : Int) (data : List ByteArray) (hF : Few5 kind first count data) (hf : first ≤ 100) (n : Int) (hn : 0 ≤ n ∧ n ≤ 5) (z : List ByteArray)
  (hnext : Ev (fun k => clinkerlaw13_ModelParts.l0 k x0 x1 true (doV m kind first count data).1 (wrap64 (i + 1))) true)
include hm hF hf hn hnext
set_option linter.unusedSectionVars false
theorem parts_tail (u : Int) (hu : u ≤ 1) : Ev (fun k => clinkerlaw13_ModelParts.l1 k x0 x1 true m i n (partV m kind first count data n) (partV m kind first count data (n + 1)) (doV m kind first count data).1 u 12 kind first count data (doV m kind first count data).2.1 z) true := by
  have e1 := (do_len m kind first count data).1
  refine Ev.step (fun k => clinkerlaw13_ModelParts.l1.eq_2 ..) (Ev.ite_neg (by omega) (Ev.ite_neg (by omega) ?_))
  have same : (doV m kind first count data).1 = m → Ev (fun k => clinkerref13_Same.f k (doV m kind first count data).1 m) true := fun h => by
    have := sames_ev (doV m kind first count data).1 (by omega)
    conv at this => arg 1; ext k; rw [show clinkerref13_Same.f k (doV m kind first count data).1 (doV m kind first count data).1 = clinkerref13_Same.f k (doV m kind first count data).1 m by rw [h]]
    exact this
  have quiet : kind = 1 ∨ kind = 4 → (doV m kind first count data).1 = m := fun h => by
    have hl : laid kind count data = [] := by unfold laid; rw [if_neg (by omega), if_neg (by omega)]
    refine ext_at e1 (fun s hs => ?_)
    rw [T_at rfl (by omega) (by omega), hl]
    exact if_neg (by simp)
  by_cases h0 : (doV m kind first count data).2.1 = 0
  · refine Ev.ite_pos h0 ?_
    by_cases h1 : kind = 1
    · exact Ev.ite_pos h1 (Ev.bind (same (quiet (.inl h1))) (Ev.ite_pos rfl hnext))
    · refine Ev.ite_neg h1 ?_
      by_cases h4 : kind = 4
      · exact Ev.ite_pos h4 (Ev.bind (same (quiet (.inr h4))) (Ev.ite_pos rfl hnext))
      · exact Ev.ite_neg h4 hnext
  · refine Ev.ite_neg h0 (Ev.bind (same (do_no h0)) (Ev.ite_pos rfl ?_))
    by_cases h1 : kind = 1
    · exact Ev.ite_pos h1 (Ev.bind (same (do_no h0)) (Ev.ite_pos rfl hnext))
    · refine Ev.ite_neg h1 ?_
      by_cases h4 : kind = 4
      · exact Ev.ite_pos h4 (Ev.bind (same (do_no h0)) (Ev.ite_pos rfl hnext))
      · exact Ev.ite_neg h4 hnext
theorem parts_l1 : ∀ (d s : Nat) (u : Int), s + d = 12 → 0 ≤ u → u ≤ (if (s : Int) > first + n then 1 else 0) →
    Ev (fun k => clinkerlaw13_ModelParts.l1 k x0 x1 true m i n (partV m kind first count data n) (partV m kind first count data (n + 1)) (doV m kind first count data).1 u (s : Int) kind first count data (doV m kind first count data).2.1 z) true
  | 0, s, u, hs, hu0, hu => by
    obtain rfl : s = 12 := by omega
    exact parts_tail x0 x1 i m hm kind first count data hF hf n hn z hnext u (by split at hu <;> omega)
  | d + 1, s, u, hs, hu0, hu => by
    have lf := hF.hf
    have e1 := (do_len m kind first count data).1
    have p1 := part_len m kind first count data n
    have p2 := part_len m kind first count data (n + 1)
    have ew : wrap64 (first + n) = first + n := wrap64_in (by omega) (by omega)
    have a1 := part_at hm (kind := kind) (first := first) (count := count) (data := data) (n := n) (show s < 12 by omega)
    have a2 := part_at hm (kind := kind) (first := first) (count := count) (data := data) (n := n + 1) (show s < 12 by omega)
    have a3 := T_at (m := m) rfl (by omega) (kind := kind) (first := first) (count := count) (data := data) (show s < m.length by omega)
    -- what stands there
    have c1 : at0 (partV m kind first count data n) s = at0 m s ∨ at0 (partV m kind first count data n) s = at0 (doV m kind first count data).1 s := by
      by_cases g : checkV (m.length : Int) kind first count data = 0 ∧ first.toNat ≤ s ∧ s - first.toNat < n.toNat ∧ s - first.toNat < (laid kind count data).length
      · right
        rw [a1, a3, if_pos g, if_pos ⟨g.1, g.2.1, g.2.2.2⟩]
      · left
        rw [a1, if_neg g]
    have c2 : ¬ (s : Int) = first + n → at0 (partV m kind first count data n) s = at0 (partV m kind first count data (n + 1)) s := fun hne => by
      rw [a1, a2]
      by_cases g : checkV (m.length : Int) kind first count data = 0 ∧ first.toNat ≤ s ∧ s - first.toNat < (laid kind count data).length
      · have hll := laid_len (by omega) g.1
        have pf : 0 ≤ first := by
          rcases hll with h | h
          · have := g.2.2; rw [h] at this; simp at this
          · exact h.1
        by_cases g2 : s - first.toNat < n.toNat
        · rw [if_pos ⟨g.1, g.2.1, g2, g.2.2⟩, if_pos ⟨g.1, g.2.1, by omega, g.2.2⟩]
        · rw [if_neg (fun h => g2 h.2.2.1), if_neg (fun h => by have := h.2.2.1; omega)]
      · rw [if_neg (fun h => g ⟨h.1, h.2.1, h.2.2.2⟩), if_neg (fun h => g ⟨h.1, h.2.1, h.2.2.2⟩)]
    have go : ∀ u' : Int, 0 ≤ u' → u' ≤ (if ((s + 1 : Nat) : Int) > first + n then 1 else 0) → Ev (fun k => clinkerlaw13_ModelParts.l1 k x0 x1 true m i n (partV m kind first count data n) (partV m kind first count data (n + 1)) (doV m kind first count data).1 u' (wrap64 ((s : Int) + 1)) kind first count data (doV m kind first count data).2.1 z) true := fun u' hv' hu' => by
      rw [wrap_succ (by omega)]
      exact parts_l1 d (s + 1) u' (by omega) hv' hu'
    have mid : ∀ u' : Int, 0 ≤ u' → u' ≤ (if ((s + 1 : Nat) : Int) > first + n then 1 else 0) → Ev (fun k => if (s : Int) < (m.length : Int) then (if (at0 (partV m kind first count data n) s).toList = (at0 m s).toList then clinkerlaw13_ModelParts.l1 k x0 x1 true m i n (partV m kind first count data n) (partV m kind first count data (n + 1)) (doV m kind first count data).1 u' (wrap64 ((s : Int) + 1)) kind first count data (doV m kind first count data).2.1 z else (if (s : Int) < ((doV m kind first count data).1.length : Int) then (if (at0 (partV m kind first count data n) s).toList = (at0 (doV m kind first count data).1 s).toList then clinkerlaw13_ModelParts.l1 k x0 x1 true m i n (partV m kind first count data n) (partV m kind first count data (n + 1)) (doV m kind first count data).1 u' (wrap64 ((s : Int) + 1)) kind first count data (doV m kind first count data).2.1 z else some false) else none)) else none) true := fun u' hv' hu' => by
      refine Ev.ite_pos (by omega) ?_
      by_cases g : (at0 (partV m kind first count data n) s).toList = (at0 m s).toList
      · exact Ev.ite_pos g (go u' hv' hu')
      · refine Ev.ite_neg g (Ev.ite_pos (by omega) (Ev.ite_pos ?_ (go u' hv' hu')))
        rcases c1 with h | h
        · exact absurd (congrArg ByteArray.toList h) g
        · exact congrArg ByteArray.toList h
    refine Ev.step (fun k => clinkerlaw13_ModelParts.l1.eq_2 ..) (Ev.ite_pos (by omega) (Ev.ite_pos (by omega) (Ev.ite_pos (by omega) (Ev.ite_pos (by omega) ?_))))
    rw [rdOf_at, rdOf_at, rdOf_at, rdOf_at, ew]
    by_cases hq : (at0 (partV m kind first count data n) s).toList = (at0 (partV m kind first count data (n + 1)) s).toList
    · refine Ev.ite_pos hq ?_
      by_cases hs2 : (s : Int) = first + n
      · exact Ev.ite_pos hs2 (mid u hu0 (by split at hu <;> split <;> omega))
      · exact Ev.ite_neg hs2 (mid u hu0 (by split at hu <;> split <;> omega))
    · refine Ev.ite_neg hq ?_
      by_cases hs2 : (s : Int) = first + n
      · have hu2 : u ≤ 0 := by rw [if_neg (by omega)] at hu; exact hu
        have mx : wrap64 (u + 1) ≤ (if ((s + 1 : Nat) : Int) > first + n then 1 else 0) := by
          rw [if_pos (by omega)]
          unfold wrap64
          omega
        exact Ev.ite_pos hs2 (mid _ (by unfold wrap64; omega) mx)
      · exact absurd (congrArg ByteArray.toList (c2 hs2)) hq
end
theorem parts_l0 (l : List (List Int)) (hw : ∀ x ∈ l, ∀ y ∈ x, 0 ≤ y ∧ y ≤ 255) (hl : l.length ≤ 9223372036854775807) (a : Int) (ha : 0 ≤ a ∧ a ≤ 255) : ∀ (d i : Nat) (m : List ByteArray), i + d = l.length → m.length = 12 →
    Ev (fun k => clinkerlaw13_ModelParts.l0 k l a true m (i : Int)) true
  | 0, i, m, hi, hm => Ev.step (fun k => clinkerlaw13_ModelParts.l0.eq_2 ..) (Ev.ite_neg (by omega) (Ev.step (fun k => clinkerlaw13_ModelParts.j1.eq_2 ..) (Ev.ite_neg (by simp) (Ev.now true))))
  | d + 1, i, m, hi, hm => by
    refine Ev.step (fun k => clinkerlaw13_ModelParts.l0.eq_2 ..) (Ev.ite_pos (by omega) (Ev.step (fun k => clinkerlaw13_ModelParts.j1.eq_2 ..) ?_))
    by_cases h : (i : Int) < 6
    · have hin : rd_L2 l (i : Int) ∈ l := by
        unfold rd_L2
        rw [Int.toNat_natCast, List.getD_eq_getElem?_getD, List.getElem?_eq_getElem (show i < l.length by omega)]
        exact List.getElem_mem _
      refine Ev.ite_pos (decide_eq_true h) (Ev.ite_pos (by omega) (Ev.ite_pos (by omega) ?_))
      unfold clinkerlaw13_Made.f
      rw [if_pos (hw _ hin)]
      obtain ⟨f1, f2, f3⟩ := madeV_facts (rd_L2 l (i : Int))
      have hF := madeV_few (rd_L2 l (i : Int))
      obtain ⟨n, hn⟩ : ∃ n, Int.tmod (wrap64 a) 6 = n := ⟨_, rfl⟩
      have hn2 : 0 ≤ n ∧ n ≤ 5 := by
        rw [wrap64_in (by omega) (by omega), Int.tmod_eq_emod_of_nonneg ha.1] at hn
        omega
      refine Ev.pure_ ?_
      rw [hn, wrap64_in (i := n + 1) (by omega) (by omega), mdo_eq m _ _ _ _ (by omega)]
      unfold model_Part.f
      have hx : m.length ≤ 8796093022207 := by omega
      rw [if_pos hx, if_pos hx]
      refine Ev.pure_ (Ev.pure_ (Ev.pure_ (Ev.ite_pos (by rw [part_len]; omega) (Ev.ite_pos (by rw [part_len]; omega) ?_))))
      have e1 := (do_len m (madeV (rd_L2 l (i : Int))).1 (madeV (rd_L2 l (i : Int))).2.1 (madeV (rd_L2 l (i : Int))).2.2.1 (madeV (rd_L2 l (i : Int))).2.2.2).1
      refine Ev.step (fun k => clinkerlaw13_ModelParts.j2.eq_2 ..) (Ev.ite_neg ?_ ?_)
      · rw [e1, hm]; decide
      · refine parts_l1 l a (i : Int) m hm _ _ _ _ hF (by omega) n hn2 _ ?_ 12 0 0 (by omega) (by omega) (by split <;> omega)
        rw [wrap_succ (by omega)]
        exact parts_l0 l hw hl a ha d (i + 1) _ (by omega) (by rw [e1]; exact hm)
    · exact Ev.ite_neg (not_dec h) (Ev.now true)
theorem law_ModelParts (l : List (List Int)) (hw : ∀ x ∈ l, ∀ y ∈ x, 0 ≤ y ∧ y ≤ 255) (hl : l.length ≤ 9223372036854775807) (a : Int) (ha : (Lit.int .u8 a).wf = true) : ∃ k, clinkerlaw13_ModelParts.f k l a = some true := by
  refine Ev.rounds (g := fun k => clinkerlaw13_ModelParts.f k l a) ?_
  have wa : 0 ≤ a ∧ a ≤ 255 := by
    have hmin : IntKind.u8.min = 0 := rfl
    have hmax : IntKind.u8.max = 255 := rfl
    simp only [Lit.wf, Bool.and_eq_true, decide_eq_true_eq] at ha
    omega
  unfold clinkerlaw13_ModelParts.f
  refine Ev.bind awake_ev (Ev.ite_pos rfl ?_)
  rw [pnew_eq]
  exact Ev.pure_ (parts_l0 l hw hl a wa l.length 0 _ (by omega) (by rw [List.length_replicate]; rfl))
end Go.Proofs.Ytcahhknehmhlaaa.X

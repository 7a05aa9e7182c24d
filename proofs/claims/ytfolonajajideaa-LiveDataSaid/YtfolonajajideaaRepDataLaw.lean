/- The statement LiveData over numbers and lists alone. -/
import Derived.Test.YtfolonajajideaaRepLaw
import Derived.Test.YtfolonajajideaaPAllx23
namespace Go.Proofs.Ytfolonajajideaa.X
open Go.RowKit Go.Proofs.Ytfolonajajideaa.PAll Go.Proofs.YtfolonajajideaaW.PrintWords Go.Proofs.YtfolonajajideaaW.PrintLast Go.Proofs.YtfolonajajideaaW.PrintMore
set_option linter.unusedVariables false
set_option linter.unusedSimpArgs false
theorem wf_u16 {a : Int} (h : (Lit.int .u16 a).wf = true) : 0 ≤ a ∧ a ≤ 65535 := by
  simp [Lit.wf, IntKind.min, IntKind.max, IntKind.bits, IntKind.signed] at h
  omega
abbrev rdF (L : List Fnd) (i : Int) : Fnd := rd_T44 L i
theorem rdF_at (L : List Fnd) (i : Nat) (h : i < L.length) : rdF L (i : Int) = L[i] := by
  show L.getD (i : Int).toNat zF = L[i]
  rw [Int.toNat_natCast, List.getD_eq_getElem?_getD, List.getElem?_eq_getElem h]
  rfl
/-- Is a sector told of by one of these? -/
def toldB (l : List Fnd) (key : Int) : Bool := l.any fun g => g.f1.f2.contains key
/-- Is a sector of the page told of by no later one? -/
def lastB (L : List Fnd) (i : Nat) (ks : List Int) : Bool := ks.any fun key => !toldB (L.drop (i + 1)) key
theorem few {L : List Fnd} (hL : WF 512 L) (k : Nat) (hk : k < L.length) : (rdF L (k : Int)).f1.f2.length ≤ 8 := by
  rw [rdF_at L k hk]
  exact (right_facts (hL.2.1 _ (List.getElem_mem hk)).1).2.2.2.1
section
variable {L : List Fnd} (hL : WF 512 L) (t u : List Int)
include hL
theorem data_l3 (i j k : Nat) (hi : i < L.length) (hk : k < L.length) (hj : j < (rdF L (i : Int)).f1.f2.length) (x9 : Bool) : ∀ (d m : Nat) (x11 : Bool), m + d = (rdF L (k : Int)).f1.f2.length →
    Ev (fun n => clinkerlaw08_LiveData.l2 n true L (i : Int) x9 (j : Int) (x11 || ((rdF L (k : Int)).f1.f2.drop m).contains (rd (rdF L (i : Int)).f1.f2 (j : Int))) (wrap64 ((k : Int) + 1)) t u) true →
    Ev (fun n => clinkerlaw08_LiveData.l3 n true L (i : Int) x9 (j : Int) x11 (k : Int) (m : Int) t u) true
  | 0, m, x11, hm, next => by
    rw [List.drop_of_length_le (by omega)] at next
    rw [List.contains_nil, Bool.or_false] at next
    exact Ev.step (fun k => clinkerlaw08_LiveData.l3.eq_2 ..) (Ev.ite_pos (by omega) (Ev.ite_pos (by omega) (Ev.ite_neg (by show ¬ (m : Int) < ((rdF L (k : Int)).f1.f2.length : Int); omega) next)))
  | d + 1, m, x11, hm, next => by
    have h8 := few hL k hk
    rw [drop_rd _ m (by omega), List.contains_cons] at next
    have hw := wrap_succ (i := m) (by omega)
    have hlt : (m : Int) < ((rdF L (k : Int)).f1.f2.length : Int) := by omega
    cases x11 with
    | true =>
      have ih := data_l3 i j k hi hk hj x9 d (m + 1) true (by omega) (by rw [Bool.true_or] at next ⊢; exact next)
      refine Ev.step (fun k => clinkerlaw08_LiveData.l3.eq_2 ..) (Ev.ite_pos (by omega) (Ev.ite_pos (by omega) (Ev.ite_pos hlt (Ev.ite_pos rfl ?_))))
      rw [hw]
      exact ih
    | false =>
      have ih := data_l3 i j k hi hk hj x9 d (m + 1) (rd (rdF L (k : Int)).f1.f2 (m : Int) == rd (rdF L (i : Int)).f1.f2 (j : Int)) (by omega) (by
        rw [Bool.false_or] at next
        rw [show (rd (rdF L (i : Int)).f1.f2 (j : Int) == rd (rdF L (k : Int)).f1.f2 (m : Int)) = (rd (rdF L (k : Int)).f1.f2 (m : Int) == rd (rdF L (i : Int)).f1.f2 (j : Int)) from BEq.comm] at next
        exact next)
      refine Ev.step (fun k => clinkerlaw08_LiveData.l3.eq_2 ..) (Ev.ite_pos (by omega) (Ev.ite_pos (by omega) (Ev.ite_pos hlt (Ev.ite_neg (by simp) (Ev.ite_pos (by omega) (Ev.ite_pos (by omega) (Ev.ite_pos (by omega) (Ev.ite_pos (by omega) (Ev.ite_pos (by show (j : Int) < ((rdF L (i : Int)).f1.f2.length : Int); omega) ?_)))))))))
      rw [hw]
      exact ih
theorem data_l2 (i j : Nat) (hi : i < L.length) (hj : j < (rdF L (i : Int)).f1.f2.length) (x9 : Bool) : ∀ (d k : Nat) (x11 : Bool), k + d = L.length →
    Ev (fun n => clinkerlaw08_LiveData.l1 n true L (i : Int) (x9 || !(x11 || toldB (L.drop k) (rd (rdF L (i : Int)).f1.f2 (j : Int)))) (wrap64 ((j : Int) + 1)) t u) true →
    Ev (fun n => clinkerlaw08_LiveData.l2 n true L (i : Int) x9 (j : Int) x11 (k : Int) t u) true
  | 0, k, x11, hk, next => by
    rw [List.drop_of_length_le (by omega)] at next
    have e : toldB [] (rd (rdF L (i : Int)).f1.f2 (j : Int)) = false := rfl
    rw [e, Bool.or_false] at next
    refine Ev.step (fun k => clinkerlaw08_LiveData.l2.eq_2 ..) (Ev.ite_neg (by omega) ?_)
    cases x9 with
    | true => exact Ev.ite_pos rfl next
    | false => exact Ev.ite_neg (by simp) next
  | d + 1, k, x11, hk, next => by
    have hlen := hL.1
    refine Ev.step (fun k => clinkerlaw08_LiveData.l2.eq_2 ..) (Ev.ite_pos (by omega) (data_l3 hL t u i j k hi (by omega) hj x9 _ 0 x11 (Nat.zero_add _) ?_))
    rw [wrap_succ (by omega), List.drop_zero]
    refine data_l2 i j hi hj x9 d (k + 1) _ (by omega) ?_
    rw [drop_rdF L k (by omega)] at next
    unfold toldB at next ⊢
    rw [List.any_cons, ← Bool.or_assoc] at next
    exact next
theorem data_l1 (i : Nat) (hi : i < L.length) (hu : u.length ≤ big) (ht : t.length ≤ big) (hT : lastB L i (rdF L (i : Int)).f1.f2 = true → liveB t u (rdF L (i : Int)).f0 = true) (hF : lastB L i (rdF L (i : Int)).f1.f2 = false → idxTo u (rdF L (i : Int)).f0 u.length = [])
    (next : Ev (fun n => clinkerlaw08_LiveData.l0 n true L (wrap64 ((i : Int) + 1)) t u) true) : ∀ (d j : Nat) (x9 : Bool), j + d = (rdF L (i : Int)).f1.f2.length → (x9 || lastB L i ((rdF L (i : Int)).f1.f2.drop j)) = lastB L i (rdF L (i : Int)).f1.f2 →
    Ev (fun n => clinkerlaw08_LiveData.l1 n true L (i : Int) x9 (j : Int) t u) true
  | 0, j, x9, hj, hx => by
    rw [List.drop_of_length_le (by omega)] at hx
    have e : lastB L i [] = false := rfl
    rw [e, Bool.or_false] at hx
    rw [← hx] at hT hF
    refine Ev.step (fun k => clinkerlaw08_LiveData.l1.eq_2 ..) (Ev.ite_pos (by omega) (Ev.ite_pos (by omega) (Ev.ite_neg (by show ¬ (j : Int) < ((rdF L (i : Int)).f1.f2.length : Int); omega) ?_)))
    cases x9 with
    | true =>
      have h := live_ev t u (rdF L (i : Int)).f0 ht hu
      rw [hT rfl] at h
      exact Ev.ite_pos rfl (Ev.bind h (Ev.step (fun k => clinkerlaw08_LiveData.j4.eq_2 ..) (Ev.ite_neg (by simp) (Ev.ite_pos rfl next))))
    | false =>
      have h := says_eq t u (rdF L (i : Int)).f0 hu
      rw [hF rfl] at h
      exact Ev.ite_neg (by simp) (Ev.step (fun k => clinkerlaw08_LiveData.j4.eq_2 ..) (Ev.ite_neg (by simp) (Ev.ite_neg (by simp) (Ev.ite_pos (by omega) (Ev.ite_pos (by omega) (Ev.have_ h (Ev.ite_neg (by simp) next)))))))
  | d + 1, j, x9, hj, hx => by
    have h8 := few hL i hi
    have hlen := hL.1
    have ih := data_l1 i hi hu ht hT hF next d (j + 1) (x9 || !toldB (L.drop (i + 1)) (rd (rdF L (i : Int)).f1.f2 (j : Int))) (by omega) (by
      rw [drop_rd _ j (by omega)] at hx
      rw [← hx]
      unfold lastB
      rw [List.any_cons, Bool.or_assoc])
    refine Ev.step (fun k => clinkerlaw08_LiveData.l1.eq_2 ..) (Ev.ite_pos (by omega) (Ev.ite_pos (by omega) (Ev.ite_pos (by show (j : Int) < ((rdF L (i : Int)).f1.f2.length : Int); omega) ?_)))
    rw [wrap_succ (i := i) (by omega)]
    refine data_l2 hL t u i j hi (by omega) x9 (L.length - (i + 1)) (i + 1) false (by omega) ?_
    rw [Bool.false_or, wrap_succ (i := j) (by omega)]
    exact ih
end
theorem byL_none (s : Nat) : ∀ (l : List Fnd) (a : Int), (∀ g ∈ l, (s : Int) ∉ g.f1.f2) → l.foldl (fun a f => if (s : Int) ∈ f.f1.f2 then f.f0 else a) a = a
  | [], a, _ => rfl
  | x :: l, a, h => by
    rw [List.foldl_cons, if_neg (h x (List.mem_cons_self ..))]
    exact byL_none s l a (fun g hg => h g (List.mem_cons_of_mem _ hg))
theorem byL_last (s : Nat) : ∀ (l : List Fnd) (a : Int), (∃ g ∈ l, (s : Int) ∈ g.f1.f2) → ∃ v g w, l = v ++ g :: w ∧ l.foldl (fun a f => if (s : Int) ∈ f.f1.f2 then f.f0 else a) a = g.f0 ∧ (s : Int) ∈ g.f1.f2 ∧ ∀ h ∈ w, (s : Int) ∉ h.f1.f2
  | [], a, h => by
    obtain ⟨g, hg, _⟩ := h
    cases hg
  | x :: l, a, h => by
    by_cases h1 : ∃ g ∈ l, (s : Int) ∈ g.f1.f2
    · obtain ⟨v, g, w, e1, e2, e3, e4⟩ := byL_last s l (if (s : Int) ∈ x.f1.f2 then x.f0 else a) h1
      exact ⟨x :: v, g, w, by rw [e1]; rfl, e2, e3, e4⟩
    · have h2 : ∀ g ∈ l, (s : Int) ∉ g.f1.f2 := fun g hg hs => h1 ⟨g, hg, hs⟩
      have h3 : (s : Int) ∈ x.f1.f2 := by
        obtain ⟨g, hg, hs⟩ := h
        rcases List.mem_cons.1 hg with rfl | hg
        · exact hs
        · exact absurd hs (h2 g hg)
      exact ⟨[], x, l, rfl, by rw [List.foldl_cons, if_pos h3]; exact byL_none s l _ h2, h3, h2⟩
theorem toldB_iff {l : List Fnd} {key : Int} : toldB l key = true ↔ ∃ g ∈ l, key ∈ g.f1.f2 := by
  unfold toldB
  rw [List.any_eq_true]
  constructor
  · rintro ⟨g, h1, h2⟩
    exact ⟨g, h1, List.contains_iff_mem.1 h2⟩
  · rintro ⟨g, h1, h2⟩
    exact ⟨g, h1, List.contains_iff_mem.2 h2⟩
theorem lastB_iff {L : List Fnd} {i : Nat} {ks : List Int} : lastB L i ks = true ↔ ∃ key ∈ ks, ∀ g ∈ L.drop (i + 1), key ∉ g.f1.f2 := by
  unfold lastB
  rw [List.any_eq_true]
  constructor
  · rintro ⟨key, h1, h2⟩
    refine ⟨key, h1, fun g hg hk => ?_⟩
    rw [toldB_iff.2 ⟨g, hg, hk⟩] at h2
    cases h2
  · rintro ⟨key, h1, h2⟩
    refine ⟨key, h1, ?_⟩
    cases h : toldB (L.drop (i + 1)) key with
    | false => rfl
    | true =>
      obtain ⟨g, hg, hk⟩ := toldB_iff.1 h
      exact absurd hk (h2 g hg)
theorem data_T {L : List Fnd} (hL : WF 512 L) {t u : List Int} (hu : u.length = 64) (hb : ∀ s : Nat, s < 64 → u.getD s 0 = byL L s) (i : Nat) (hi : i < L.length) (h : lastB L i (rdF L (i : Int)).f1.f2 = true) : liveB t u (rdF L (i : Int)).f0 = true := by
  obtain ⟨key, h1, h2⟩ := lastB_iff.1 h
  have hw := hL.2.1 _ (List.getElem_mem hi)
  rw [rdF_at L i hi] at h1 ⊢
  have hk := (right_facts hw.1).2.2.2.2.2.1 key h1
  obtain ⟨s, rfl⟩ : ∃ s : Nat, key = (s : Int) := ⟨key.toNat, by omega⟩
  have e : ∀ g, L[i] = g → (s : Int) ∈ g.f1.f2 → byL L s = g.f0 := by
    intro g hg hm
    have hs : L = L.take i ++ g :: L.drop (i + 1) := by
      rw [← hg, ← List.drop_eq_getElem_cons hi, List.take_append_drop]
    unfold byL
    rw [hs, List.foldl_append, List.foldl_cons, if_pos hm]
    exact byL_none s _ _ h2
  have e := e _ rfl h1
  have hb := hb s (by omega)
  rw [e] at hb
  unfold liveB
  rw [decide_eq_true (show 0 ≤ L[i].f0 from hw.2.1), Bool.true_and, Bool.or_eq_true]
  right
  rw [List.contains_iff_mem, ← hb, List.getD_eq_getElem?_getD, List.getElem?_eq_getElem (by omega)]
  exact List.getElem_mem _
theorem data_F {L : List Fnd} (hL : WF 512 L) {u : List Int} (hu : u.length = 64) (hb : ∀ s : Nat, s < 64 → u.getD s 0 = byL L s) (i : Nat) (hi : i < L.length) (h : lastB L i (rdF L (i : Int)).f1.f2 = false) : idxTo u (rdF L (i : Int)).f0 u.length = [] := by
  rw [List.eq_nil_iff_forall_not_mem]
  intro x hx
  obtain ⟨s, hs, _, h0, hv⟩ := mem_idxTo.mp hx
  have hb := hb s (by omega)
  rw [List.getD_eq_getElem?_getD, hv] at hb
  by_cases ht : ∃ g ∈ L, (s : Int) ∈ g.f1.f2
  · obtain ⟨v, g, w, e1, e2, e3, e4⟩ := byL_last s L (-1) ht
    have e2 : byL L s = g.f0 := e2
    rw [e2] at hb
    have hv : v.length < L.length := by rw [e1]; simp
    have hg : L[v.length] = g := by
      have : L[v.length]? = some g := by rw [e1]; simp
      rw [List.getElem?_eq_getElem hv] at this
      exact Option.some.inj this
    have hi2 : v.length = i := by
      apply Decidable.byContradiction
      intro hne
      rw [rdF_at L i hi] at hb
      rcases Nat.lt_or_gt_of_ne hne with h1 | h1
      · exact List.pairwise_iff_getElem.mp hL.2.2 v.length i hv hi h1 (by rw [hg]; exact hb.symm)
      · exact List.pairwise_iff_getElem.mp hL.2.2 i v.length hi hv h1 (by rw [hg]; exact hb)
    subst hi2
    have hl : lastB L v.length (rdF L (v.length : Int)).f1.f2 = true := lastB_iff.2 ⟨(s : Int), by rw [rdF_at L _ hi, hg]; exact e3, fun g' hg' => by
      have hd : L.drop (v.length + 1) = w := by rw [e1]; simp
      rw [hd] at hg'
      exact e4 g' hg'⟩
    rw [hl] at h
    cases h
  · have e : byL L s = -1 := byL_none s L (-1) (fun g hg hs => ht ⟨g, hg, hs⟩)
    rw [e] at hb
    omega
theorem data_l0 {L : List Fnd} (hL : WF 512 L) (t u : List Int) (ht : t.length = 64) (hu : u.length = 64) (hb : ∀ s : Nat, s < 64 → u.getD s 0 = byL L s) : ∀ (d i : Nat), i + d = L.length → Ev (fun n => clinkerlaw08_LiveData.l0 n true L (i : Int) t u) true
  | 0, i, hi => Ev.step (fun k => clinkerlaw08_LiveData.l0.eq_2 ..) (Ev.ite_neg (by omega) (Ev.now true))
  | d + 1, i, hi => by
    have hlen := hL.1
    have ih := data_l0 hL t u ht hu hb d (i + 1) (by omega)
    refine Ev.step (fun k => clinkerlaw08_LiveData.l0.eq_2 ..) (Ev.ite_pos (by omega) ?_)
    exact data_l1 hL t u i (by omega) (by unfold big; omega) (by unfold big; omega) (data_T hL hu hb i (by omega)) (data_F hL hu hb i (by omega)) (by rw [wrap_succ (by omega)]; exact ih) (rdF L (i : Int)).f1.f2.length 0 false (by omega) (by rw [List.drop_zero, Bool.false_or])
theorem law_LiveData : clinkerlaw08_LiveData.Pure := by
  intro l hl hl2 hw
  refine Ev.rounds (g := fun k => clinkerlaw08_LiveData.f k l) ?_
  obtain ⟨l3, br3, ops3, g3, ev3⟩ := made_ev l (fun x hx => wf_u16 (hw x hx)) (by omega) 4 5 (by omega) (by omega) (by omega) (by omega)
  obtain ⟨L, M, Y, q, hL, ev4, ev5, e1, e2, e3⟩ := replay_ev (br := br3) (off := false) (ops := ops3) g3 (by omega) (by omega) 64 (by omega)
  refine Ev.bind awake_ev (Ev.ite_pos rfl (Ev.bind ev3 (Ev.bind ev5 (Ev.bind ev4 ?_))))
  exact data_l0 hL M Y e1 e2 e3 L.length 0 (by omega)
end Go.Proofs.Ytfolonajajideaa.X

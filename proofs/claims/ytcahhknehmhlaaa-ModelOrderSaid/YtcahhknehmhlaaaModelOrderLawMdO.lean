/- The statement ModelOrder over lists. -/
import Derived.Test.YtcahhknehmhlaaaMdO
import Derived.Test.YtcahhknehmhlaaaOrA
namespace Go.Proofs.Ytcahhknehmhlaaa.X
open Go.RowKit Go.Proofs.Ytcahhknehmhlaaa.PAll Go.Proofs.YtcahhknehmhlaaaW.PrintWords Go.Proofs.YtcahhknehmhlaaaW.PrintLast Go.Proofs.YtcahhknehmhlaaaW.PrintMore
theorem ext_at {l m : List ByteArray} (h : l.length = m.length) (h2 : ∀ s, s < l.length → at0 l s = at0 m s) : l = m :=
  List.ext_getElem h (fun i h3 h4 => by
    have := h2 i h3
    simp only [at0, List.getD_eq_getElem?_getD, List.getElem?_eq_getElem h3, List.getElem?_eq_getElem h4, Option.getD_some] at this
    exact this)
/-- A command of few sectors, and where it lays. -/
structure Few5 (kind first count : Int) (data : List ByteArray) : Prop where
  hf : -1 ≤ first
  hl : (laid kind count data).length ≤ 5
theorem T_at {m : List ByteArray} {n : Nat} (hn : m.length = n) (hm : n ≤ 64) {kind first count : Int} {data : List ByteArray} {s : Nat} (hs : s < n) :
    at0 (doV m kind first count data).1 s = if checkV (n : Int) kind first count data = 0 ∧ first.toNat ≤ s ∧ s - first.toNat < (laid kind count data).length then at0 (laid kind count data) (s - first.toNat) else at0 m s := by
  subst hn
  by_cases h : checkV (m.length : Int) kind first count data = 0
  · rw [do_at hm hs h]
    by_cases h2 : first.toNat ≤ s ∧ s - first.toNat < (laid kind count data).length
    · rw [if_pos h2, if_pos ⟨h, h2⟩]
    · rw [if_neg h2, if_neg (fun h3 => h2 h3.2)]
  · rw [if_neg (fun h3 => h h3.1)]
    have e : (doV m kind first count data).1 = m := by
      unfold doV
      rw [if_neg h]
    rw [e]
theorem apart_no {n : Nat} (hm : n ≤ 64) {m : List ByteArray} (hn : m.length = n) {k1 f1 c1 k2 f2 c2 : Int} {d1 d2 : List ByteArray} (h1 : Few5 k1 f1 c1 d1) (h2 : Few5 k2 f2 c2 d2)
    (ha : ∀ i j : Nat, i < 5 → j < 5 → f1 + (i : Int) ≠ f2 + (j : Int)) (s : Nat)
    (ga : checkV (n : Int) k1 f1 c1 d1 = 0 ∧ f1.toNat ≤ s ∧ s - f1.toNat < (laid k1 c1 d1).length) (gb : checkV (n : Int) k2 f2 c2 d2 = 0 ∧ f2.toNat ≤ s ∧ s - f2.toNat < (laid k2 c2 d2).length) : False := by
  subst hn
  have la := laid_len (by omega) ga.1
  have lb := laid_len (by omega) gb.1
  have qa := h1.hl
  have qb := h2.hl
  have pa : 0 ≤ f1 := by
    rcases la with h | h
    · have := ga.2.2; rw [h] at this; simp at this
    · exact h.1
  have pb : 0 ≤ f2 := by
    rcases lb with h | h
    · have := gb.2.2; rw [h] at this; simp at this
    · exact h.1
  exact ha (s - f1.toNat) (s - f2.toNat) (by omega) (by omega) (by omega)
theorem do_comm {m : List ByteArray} (hm : m.length ≤ 64) {k1 f1 c1 k2 f2 c2 : Int} {d1 d2 : List ByteArray} (h1 : Few5 k1 f1 c1 d1) (h2 : Few5 k2 f2 c2 d2)
    (ha : ∀ i j : Nat, i < 5 → j < 5 → f1 + (i : Int) ≠ f2 + (j : Int)) : (doV (doV m k1 f1 c1 d1).1 k2 f2 c2 d2).1 = (doV (doV m k2 f2 c2 d2).1 k1 f1 c1 d1).1 := by
  have e1 := (do_len m k1 f1 c1 d1).1
  have e2 := (do_len m k2 f2 c2 d2).1
  refine ext_at (by rw [(do_len ..).1, e1, (do_len ..).1, e2]) (fun s hs => ?_)
  rw [(do_len ..).1, e1] at hs
  rw [T_at e1 hm hs, T_at rfl hm hs, T_at e2 hm hs, T_at rfl hm hs]
  by_cases ga : checkV (m.length : Int) k1 f1 c1 d1 = 0 ∧ f1.toNat ≤ s ∧ s - f1.toNat < (laid k1 c1 d1).length
  · have gb : ¬ (checkV (m.length : Int) k2 f2 c2 d2 = 0 ∧ f2.toNat ≤ s ∧ s - f2.toNat < (laid k2 c2 d2).length) := fun gb => apart_no hm rfl h1 h2 ha s ga gb
    rw [if_neg gb, if_pos ga, if_pos ga]
  · rw [if_neg ga, if_neg ga]
theorem part_all {m : List ByteArray} {kind first count : Int} {data : List ByteArray} {n : Int} (hn : n = (m.length : Int)) : partV m kind first count data n = (doV m kind first count data).1 := by
  subst hn
  unfold doV
  by_cases h : checkV (m.length : Int) kind first count data = 0
  · rw [if_pos h]
    by_cases h1 : kind = 1
    · subst h1
      rw [if_pos rfl, part_laid h, show laid 1 count data = [] from rfl, List.take_nil]
      rfl
    · rw [if_neg h1]
  · rw [if_neg h, part_no h]
theorem part_none {m : List ByteArray} {kind first count : Int} {data : List ByteArray} : partV m kind first count data 0 = m := by
  by_cases h : checkV (m.length : Int) kind first count data = 0
  · rw [part_laid h]
    rfl
  · exact part_no h
theorem madeV_few (l : List Int) : Few5 (madeV l).1 (madeV l).2.1 (madeV l).2.2.1 (madeV l).2.2.2 := by
  obtain ⟨f1, f2, f3⟩ := madeV_facts l
  have h2 := pk_in l 2 (n := 6) (by omega)
  have e : (madeV l).2.2.1 = pk l 2 6 := rfl
  refine ⟨f1, ?_⟩
  unfold laid
  split
  · omega
  · split
    · rw [List.length_replicate, e]; omega
    · simp
set_option linter.unusedSectionVars false
section
variable (m : List ByteArray) (hm : m.length = 12) (k1 f1 c1 : Int) (d1 : List ByteArray) (k2 f2 c2 : Int) (d2 : List ByteArray) (h1 : Few5 k1 f1 c1 d1) (h2 : Few5 k2 f2 c2 d2) (b1 : f1 ≤ 100) (b2 : f2 ≤ 100)
include hm h1 h2 b1 b2
theorem order_tail : Ev (fun k => (model_Part.f m k1 f1 c1 d1 12).bind fun t231 => ((clinkerref13_Same.f k t231 (doV m k1 f1 c1 d1).1).bind fun t234 => (if t234 = true then ((model_Part.f m k1 f1 c1 d1 0).bind fun t235 => ((clinkerref13_Same.f k t235 m).bind fun t238 => (some t238))) else (some false)))) true := by
  unfold model_Part.f
  have hx : m.length ≤ 8796093022207 := by omega
  rw [if_pos hx, if_pos hx, part_all (n := 12) (by omega), part_none]
  have e1 := (do_len m k1 f1 c1 d1).1
  exact Ev.pure_ (Ev.bind (sames_ev _ (by omega)) (Ev.ite_pos rfl (Ev.pure_ (Ev.bind (sames_ev _ (by omega)) (Ev.now true)))))
theorem order_end (b : Bool) (i : Int) (hi : ¬ i < 5) (hb : b = true → ∀ i j : Nat, i < 5 → j < 5 → f1 + (i : Int) ≠ f2 + (j : Int)) :
    Ev (fun k => clinkerlaw13_ModelOrder.l0 k true m (doV m k1 f1 c1 d1).1 b i k1 f1 c1 d1 k2 f2 c2 d2) true := by
  have e1 := (do_len m k1 f1 c1 d1).1
  have e2 := (do_len m k2 f2 c2 d2).1
  have e3 := (do_len (doV m k2 f2 c2 d2).1 k1 f1 c1 d1).1
  refine Ev.step (fun k => clinkerlaw13_ModelOrder.l0.eq_2 ..) (Ev.ite_neg hi ?_)
  rw [mdo_eq (doV m k1 f1 c1 d1).1 _ _ _ _ (by omega), mdo_eq m _ _ _ _ (by omega)]
  refine Ev.pure_ (Ev.pure_ ?_)
  rw [mdo_eq (doV m k2 f2 c2 d2).1 _ _ _ _ (by omega)]
  refine Ev.pure_ (Ev.ite_pos rfl ?_)
  have ht := order_tail m hm k1 f1 c1 d1 k2 f2 c2 d2 h1 h2 b1 b2
  cases b with
  | true =>
    refine Ev.ite_pos rfl ?_
    rw [do_comm (by omega) h1 h2 (hb rfl)]
    exact Ev.bind (sames_ev _ (by omega)) (Ev.ite_pos rfl ht)
  | false => exact Ev.ite_neg (by simp) ht
theorem order_l1 (i : Nat) (hi5 : i < 5) (hn : ∀ b : Bool, (b = true → ∀ i' j : Nat, i' < i + 1 → j < 5 → f1 + (i' : Int) ≠ f2 + (j : Int)) → Ev (fun k => clinkerlaw13_ModelOrder.l0 k true m (doV m k1 f1 c1 d1).1 b ((i + 1 : Nat) : Int) k1 f1 c1 d1 k2 f2 c2 d2) true) :
    ∀ (e j : Nat) (b : Bool), j + e = 5 → (b = true → ∀ i' j' : Nat, (i' < i ∧ j' < 5) ∨ (i' = i ∧ j' < j) → f1 + (i' : Int) ≠ f2 + (j' : Int)) →
      Ev (fun k => clinkerlaw13_ModelOrder.l1 k true m (doV m k1 f1 c1 d1).1 b (i : Int) (j : Int) k1 f1 c1 d1 k2 f2 c2 d2) true
  | 0, j, b, hj, hb => by
    refine Ev.step (fun k => clinkerlaw13_ModelOrder.l1.eq_2 ..) (Ev.ite_neg (by omega) ?_)
    rw [wrap_succ (by omega)]
    exact hn b (fun h i' j' hi' hj' => hb h i' j' (by omega))
  | e + 1, j, b, hj, hb => by
    refine Ev.step (fun k => clinkerlaw13_ModelOrder.l1.eq_2 ..) (Ev.ite_pos (by omega) ?_)
    rw [wrap_succ (i := j) (by omega)]
    have ha := h1.hf
    have hc := h2.hf
    cases b with
    | true =>
      rw [wrap64_in (i := f1 + (i : Int)) (by omega) (by omega), wrap64_in (i := f2 + (j : Int)) (by omega) (by omega)]
      refine Ev.ite_pos rfl (order_l1 i hi5 hn e (j + 1) _ (by omega) (fun h i' j' hij => ?_))
      have h3 : f1 + (i : Int) ≠ f2 + (j : Int) := by simpa using h
      by_cases hq : i' = i ∧ j' = j
      · obtain ⟨rfl, rfl⟩ := hq
        exact h3
      · exact hb rfl i' j' (by omega)
    | false => exact Ev.ite_neg (by simp) (order_l1 i hi5 hn e (j + 1) false (by omega) (fun h => by simp at h))
theorem order_l0 : ∀ (e i : Nat) (b : Bool), i + e = 5 → (b = true → ∀ i' j : Nat, i' < i → j < 5 → f1 + (i' : Int) ≠ f2 + (j : Int)) →
    Ev (fun k => clinkerlaw13_ModelOrder.l0 k true m (doV m k1 f1 c1 d1).1 b (i : Int) k1 f1 c1 d1 k2 f2 c2 d2) true
  | 0, i, b, hi, hb => order_end m hm k1 f1 c1 d1 k2 f2 c2 d2 h1 h2 b1 b2 b (i : Int) (by omega) (fun h i' j hi' hj => hb h i' j (by omega) hj)
  | e + 1, i, b, hi, hb => by
    refine Ev.step (fun k => clinkerlaw13_ModelOrder.l0.eq_2 ..) (Ev.ite_pos (by omega) ?_)
    exact order_l1 m hm k1 f1 c1 d1 k2 f2 c2 d2 h1 h2 b1 b2 i (by omega) (fun b' hb' => order_l0 e (i + 1) b' (by omega) (fun h i' j hi' hj => hb' h i' j hi' hj)) 5 0 b (by omega) (fun h i' j' hij => hb h i' j' (by omega) (by omega))
end
theorem law_ModelOrder : clinkerlaw13_ModelOrder.Pure := by
  intro l0 l1 _ _ hw0 _ _ hw1
  refine Ev.rounds (g := fun k => clinkerlaw13_ModelOrder.f k l0 l1) ?_
  have wf8 : ∀ {x : Int}, (Lit.int .u8 x).wf = true → 0 ≤ x ∧ x ≤ 255 := fun {x} h3 => by
    have hmin : IntKind.u8.min = 0 := rfl
    have hmax : IntKind.u8.max = 255 := rfl
    simp only [Lit.wf, Bool.and_eq_true, decide_eq_true_eq] at h3
    omega
  unfold clinkerlaw13_ModelOrder.f
  refine Ev.bind awake_ev (Ev.ite_pos rfl ?_)
  rw [pnew_eq]
  unfold clinkerlaw13_Made.f
  rw [if_pos (fun x hx => wf8 (hw0 x hx)), if_pos (fun x hx => wf8 (hw1 x hx))]
  refine Ev.pure_ (Ev.pure_ (Ev.pure_ ?_))
  have hm : (List.replicate (min (12 : Int).toNat 64) ByteArray.empty).length = 12 := by rw [List.length_replicate]; rfl
  rw [mdo_eq _ _ _ _ _ (by omega)]
  refine Ev.pure_ ?_
  obtain ⟨f1, f2, f3⟩ := madeV_facts l0
  obtain ⟨g1, g2, g3⟩ := madeV_facts l1
  exact order_l0 _ hm _ _ _ _ _ _ _ _ (madeV_few l0) (madeV_few l1) (by omega) (by omega) 5 0 true (by omega) (fun _ i' j hi' => by omega)
end Go.Proofs.Ytcahhknehmhlaaa.X

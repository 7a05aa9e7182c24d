/- StatesWear over numbers and lists: what an erase makes of the fewest and the most Erases. -/
import Derived.Test.YtnbhkogjamdfhaaStaMadeLaw
import Derived.Test.YtnbhkogjamdfhaaStaPickOut
import Derived.Test.YtnbhkogjamdfhaaPAllx16
namespace Go.Proofs.Ytnbhkogjamdfhaa.X
open Go.RowKit Go.Proofs.Ytnbhkogjamdfhaa.PAll Go.Proofs.YtnbhkogjamdfhaaW.PrintWords Go.Proofs.YtnbhkogjamdfhaaW.PrintLast Go.Proofs.YtnbhkogjamdfhaaW.PrintMore
set_option linter.unusedVariables false
set_option linter.unusedSimpArgs false
/-- The Erases of what is not Bad. -/
def nbL (l : List Blk) : List Int := (l.filter fun x => !x.f3).map fun x => x.f2
def wearV (l : List Blk) : Int × Int := if (nbL l).length = 0 then (0, 0) else (minL (nbL l), maxL (nbL l))
theorem mem_nb {l : List Blk} {e : Int} : e ∈ nbL l ↔ ∃ x ∈ l, x.f3 = false ∧ x.f2 = e := by
  unfold nbL
  rw [List.mem_map]
  constructor
  · rintro ⟨x, hx, rfl⟩
    obtain ⟨h1, h2⟩ := List.mem_filter.1 hx
    exact ⟨x, h1, by simpa using h2, rfl⟩
  · rintro ⟨x, h1, h2, rfl⟩
    exact ⟨x, List.mem_filter.2 ⟨h1, by simp [h2]⟩, rfl⟩
theorem min_fold : ∀ (xs : List Int) (x : Int), (xs.foldl minF x = x ∨ xs.foldl minF x ∈ xs) ∧ xs.foldl minF x ≤ x ∧ ∀ y ∈ xs, xs.foldl minF x ≤ y
  | [], x => ⟨.inl rfl, Int.le_refl _, fun y hy => by cases hy⟩
  | z :: xs, x => by
    rw [List.foldl_cons]
    obtain ⟨h1, h2, h3⟩ := min_fold xs (minF x z)
    have hm : minF x z = x ∧ x ≤ z ∨ minF x z = z ∧ z < x := by unfold minF; split <;> omega
    refine ⟨?_, by omega, fun y hy => ?_⟩
    · rcases h1 with h1 | h1
      · rcases hm with hm | hm
        · exact .inl (by omega)
        · exact .inr (by rw [h1, hm.1]; simp)
      · exact .inr (List.mem_cons_of_mem _ h1)
    · rcases List.mem_cons.1 hy with rfl | hy
      · omega
      · exact h3 y hy
theorem max_fold : ∀ (xs : List Int) (x : Int), (xs.foldl maxF x = x ∨ xs.foldl maxF x ∈ xs) ∧ x ≤ xs.foldl maxF x ∧ ∀ y ∈ xs, y ≤ xs.foldl maxF x
  | [], x => ⟨.inl rfl, Int.le_refl _, fun y hy => by cases hy⟩
  | z :: xs, x => by
    rw [List.foldl_cons]
    obtain ⟨h1, h2, h3⟩ := max_fold xs (maxF x z)
    have hm : maxF x z = x ∧ z ≤ x ∨ maxF x z = z ∧ x < z := by unfold maxF; split <;> omega
    refine ⟨?_, by omega, fun y hy => ?_⟩
    · rcases h1 with h1 | h1
      · rcases hm with hm | hm
        · exact .inl (by omega)
        · exact .inr (by rw [h1, hm.1]; simp)
      · exact .inr (List.mem_cons_of_mem _ h1)
    · rcases List.mem_cons.1 hy with rfl | hy
      · omega
      · exact h3 y hy
theorem min_spec {es : List Int} (h : es ≠ []) : minL es ∈ es ∧ ∀ y ∈ es, minL es ≤ y := by
  cases es with
  | nil => exact absurd rfl h
  | cons x xs =>
    obtain ⟨h1, h2, h3⟩ := min_fold xs x
    refine ⟨?_, fun y hy => ?_⟩
    · show xs.foldl minF x ∈ _
      rcases h1 with h1 | h1
      · rw [h1]; simp
      · exact List.mem_cons_of_mem _ h1
    · rcases List.mem_cons.1 hy with rfl | hy
      · exact h2
      · exact h3 y hy
theorem max_spec {es : List Int} (h : es ≠ []) : maxL es ∈ es ∧ ∀ y ∈ es, y ≤ maxL es := by
  cases es with
  | nil => exact absurd rfl h
  | cons x xs =>
    obtain ⟨h1, h2, h3⟩ := max_fold xs x
    refine ⟨?_, fun y hy => ?_⟩
    · show xs.foldl maxF x ∈ _
      rcases h1 with h1 | h1
      · rw [h1]; simp
      · exact List.mem_cons_of_mem _ h1
    · rcases List.mem_cons.1 hy with rfl | hy
      · exact h2
      · exact h3 y hy
theorem wear_end (es : List Int) : (if (es.length : Int) = 0 then (some (0, 0) : Option (Int × Int)) else ((slices_Min_int_int.f es).bind fun t => (slices_Max_int_int.f es).bind fun u => some (t, u))) = some (if es.length = 0 then (0, 0) else (minL es, maxL es)) := by
  cases es with
  | nil => rfl
  | cons x xs =>
    rw [if_neg (by simp; omega), if_neg (by simp)]
    rfl
theorem wear_l0 (l : List Blk) (hl : l.length ≤ 1000000) : ∀ (d i : Nat), l.length - i = d → i ≤ l.length → Ev (fun k => states_Wear.l0 k (nbL (l.take i)) l (l.length : Int) (i : Int)) (wearV l) := by
  intro d
  induction d with
  | zero =>
    intro i hd hi
    obtain rfl : i = l.length := by omega
    refine Ev.step (fun k => states_Wear.l0.eq_2 ..) (Ev.ite_neg (by omega) ?_)
    rw [List.take_length]
    have := wear_end (nbL l)
    show Ev (fun _ => (if ((nbL l).length : Int) = 0 then (some (0, 0) : Option (Int × Int)) else ((slices_Min_int_int.f (nbL l)).bind fun t => (slices_Max_int_int.f (nbL l)).bind fun u => some (t, u)))) (wearV l)
    rw [this]
    exact Ev.now _
  | succ d ih =>
    intro i hd hi
    have hlt : i < l.length := by omega
    have hw : wrap64 ((i : Int) + 1) = ((i + 1 : Nat) : Int) := by rw [wrap64_in (by omega) (by omega)]; omega
    have hr : rd_T45 l (i : Int) = l[i] := by
      show l.getD (i : Int).toNat zB = l[i]
      rw [Int.toNat_natCast, List.getD_eq_getElem?_getD, List.getElem?_eq_getElem hlt]
      rfl
    have ht : nbL (l.take (i + 1)) = if l[i].f3 = true then nbL (l.take i) else nbL (l.take i) ++ [l[i].f2] := by
      unfold nbL
      rw [List.take_succ_eq_append_getElem hlt, List.filter_append, List.map_append]
      by_cases h3 : l[i].f3 = true
      · rw [if_pos h3]; simp [h3]
      · rw [if_neg h3]; simp [Bool.eq_false_iff.2 h3]
    have hn : (nbL (l.take i)).length ≤ 1000000 := by
      unfold nbL
      rw [List.length_map]
      have := List.length_filter_le (fun x : Blk => !x.f3) (l.take i)
      rw [List.length_take] at this
      omega
    refine Ev.step (fun k => states_Wear.l0.eq_2 ..) (Ev.ite_pos (by omega) (Ev.ite_pos (by omega) (Ev.ite_pos (by omega) ?_)))
    rw [hr, hw]
    have ih := ih (i + 1) (by omega) (by omega)
    rw [ht] at ih
    by_cases h3 : l[i].f3 = true
    · rw [if_pos h3] at ih
      exact Ev.ite_pos h3 ih
    · rw [if_neg h3] at ih
      exact Ev.ite_neg h3 (Ev.ite_pos (by omega) ih)
theorem wear_ev (l : List Blk) (hl : l.length ≤ 1000000) (br off : Bool) (ops : Int) : Ev (fun k => states_Wear.f k l br off ops) (wearV l) := wear_l0 l hl l.length 0 rfl (Nat.zero_le _)
theorem law_StatesWear : clinkerlaw10_StatesWear.Pure := by
  intro l0 a1 a2 hl hl2 hx h1 h2
  have h1 := wf_u8 h1
  have h2 := wf_u8 h2
  have hx : ∀ x ∈ l0, 0 ≤ x ∧ x ≤ 65535 := fun x hm => by
    have := hx x hm
    simp [Lit.wf, IntKind.min, IntKind.max, IntKind.bits, IntKind.signed] at this
    omega
  have hb := tmod_in a1 h1.1 (show (0 : Int) < 6 by omega)
  have hB : wrap64 (1 + Int.tmod (wrap64 a1) 6) = ((1 + Int.tmod a1 6).toNat : Int) := by rw [tmod_byte (m := 6) h1, wrap64_in (by omega) (by omega)]; omega
  obtain ⟨l, br, ops, hG, hm⟩ := made_ev l0 hx (by omega) (1 + Int.tmod a1 6).toNat 4 (by omega) (by omega) (by omega) (by omega)
  refine Ev.rounds (g := fun k => clinkerlaw10_StatesWear.f k l0 a1 a2) ?_
  unfold clinkerlaw10_StatesWear.f
  rw [hB]
  refine Ev.bind awake_ev (Ev.ite_pos rfl (Ev.bind hm ?_))
  dsimp only
  have hll : (l.length : Int) = ((1 + Int.tmod a1 6).toNat : Int) := by rw [hG.2.1]
  have hlm := (sm_iff.1 hG.1).1
  have hi := tmod_in (wrap64 a2) (by rw [tmod_byte (m := 6) h2]; exact h2.1) (show (0 : Int) < (l.length : Int) by omega)
  generalize Int.tmod (wrap64 a2) (l.length : Int) = b at hi ⊢
  refine Ev.ite_neg (by omega) (Ev.have_ (rera_f hG.1 _ _ _ _ _ _ _ _) ?_)
  by_cases hbad : (rdB l b).f3 = true
  · have hv : eraV l br false ops b 0 0 = (l, true, false, ops, 1) := by
      unfold eraV
      rw [if_neg (by simp), if_neg]
      intro h
      have h' : (rdB l b).f3 = false := (may_iff.1 h).2.2.2.2
      rw [hbad] at h'
      cases h'
    rw [hv]
    refine Ev.bind (wear_ev l hlm br false ops) (Ev.bind (wear_ev l hlm true false ops) (Ev.ite_neg (by simp) (Ev.ite_pos rfl ?_)))
    rw [beq_self_eq_true]
    exact Ev.now true
  · have h3 : (rdB l b).f3 = false := Bool.eq_false_iff.2 hbad
    have hxm := rdB_mem' hi.1 hi.2
    obtain ⟨g0, g1, g2⟩ := hG.2.2 _ hxm
    have hv : eraV l br false ops b 0 0 = (l.set b.toNat (eraB (rdB l b) 0 0), br, false, wrap64 (ops + 1), 0) := by
      unfold eraV
      rw [if_neg (by simp), if_pos (may_iff.2 ⟨hi.1, hi.2, by omega, by omega, h3⟩), if_neg (by simp)]
      rfl
    have hy2 : (eraB (rdB l b) 0 0).f2 = (rdB l b).f2 + 1 := by
      show wrap64 ((rdB l b).f2 + 1) = _
      exact wrap64_in (by omega) (by omega)
    have hy3 : (eraB (rdB l b) 0 0).f3 = false := h3
    rw [hv]
    obtain ⟨y, hy⟩ : ∃ y, eraB (rdB l b) 0 0 = y := ⟨_, rfl⟩
    rw [hy] at hy2 hy3 ⊢
    have hl2 : (l.set b.toNat y).length ≤ 1000000 := by rw [List.length_set]; exact hlm
    refine Ev.bind (wear_ev l hlm br false ops) (Ev.bind (wear_ev (l.set b.toNat y) hl2 br false (wrap64 (ops + 1))) (Ev.ite_pos rfl ?_))
    obtain ⟨e, he⟩ : ∃ e, (rdB l b).f2 = e := ⟨_, rfl⟩
    rw [he] at hy2 g2
    have m1 : e ∈ nbL l := mem_nb.2 ⟨_, hxm, h3, he⟩
    have hbn : b.toNat < l.length := by omega
    have hset : (l.set b.toNat y)[b.toNat]? = some y := List.getElem?_set_self hbn
    have m2 : e + 1 ∈ nbL (l.set b.toNat y) := mem_nb.2 ⟨y, List.mem_of_getElem? hset, hy3, hy2⟩
    have n1 : nbL l ≠ [] := fun h => by rw [h] at m1; cases m1
    have n2 : nbL (l.set b.toNat y) ≠ [] := fun h => by rw [h] at m2; cases m2
    have i1 : ∀ z ∈ nbL (l.set b.toNat y), z ∈ nbL l ∨ z = e + 1 := fun z hz => by
      obtain ⟨x, hx, x3, x2⟩ := mem_nb.1 hz
      rcases List.mem_or_eq_of_mem_set hx with hx | rfl
      · exact .inl (mem_nb.2 ⟨x, hx, x3, x2⟩)
      · exact .inr (by omega)
    have i2 : ∀ z ∈ nbL l, z ∈ nbL (l.set b.toNat y) ∨ z = e := fun z hz => by
      obtain ⟨x, hx, x3, x2⟩ := mem_nb.1 hz
      obtain ⟨j, hj, rfl⟩ := List.getElem_of_mem hx
      by_cases hjb : j = b.toNat
      · right
        have := rdB_at hi.1 hi.2
        rw [← hjb, List.getElem?_eq_getElem hj] at this
        have := Option.some.inj this
        rw [← x2, this]
        exact he
      · left
        refine mem_nb.2 ⟨l[j], ?_, x3, x2⟩
        have : (l.set b.toNat y)[j]? = some l[j] := by rw [List.getElem?_set_ne (Ne.symm hjb), List.getElem?_eq_getElem hj]
        exact List.mem_of_getElem? this
    obtain ⟨a1m, a1l⟩ := min_spec n1
    obtain ⟨b1m, b1l⟩ := max_spec n1
    obtain ⟨a2m, a2l⟩ := min_spec n2
    obtain ⟨b2m, b2l⟩ := max_spec n2
    have w1 : wearV l = (minL (nbL l), maxL (nbL l)) := by unfold wearV; rw [if_neg (fun h => n1 (List.length_eq_zero_iff.1 h))]
    have w2 : wearV (l.set b.toNat y) = (minL (nbL (l.set b.toNat y)), maxL (nbL (l.set b.toNat y))) := by unfold wearV; rw [if_neg (fun h => n2 (List.length_eq_zero_iff.1 h))]
    rw [w1, w2]
    dsimp only
    have r1 : ∀ z ∈ nbL l, 0 ≤ z ∧ z ≤ 40 := fun z hz => by
      obtain ⟨x, hx, _, rfl⟩ := mem_nb.1 hz
      exact (hG.2.2 x hx).2.2
    have ra := r1 _ a1m
    have rb := r1 _ b1m
    have c1 := a1l _ b1m
    have c2 := a2l _ b2m
    have c3 := a2l _ m2
    have c4 := b2l _ m2
    have c5 := a1l _ m1
    have c6 := b1l _ m1
    have d1 : minL (nbL l) ≤ minL (nbL (l.set b.toNat y)) := by
      rcases i1 _ a2m with h | h
      · exact a1l _ h
      · omega
    have d2 : minL (nbL (l.set b.toNat y)) ≤ minL (nbL l) + 1 := by
      rcases i2 _ a1m with h | h
      · have := a2l _ h; omega
      · omega
    have d3 : maxL (nbL l) ≤ maxL (nbL (l.set b.toNat y)) := by
      rcases i2 _ b1m with h | h
      · exact b2l _ h
      · omega
    have d4 : maxL (nbL (l.set b.toNat y)) ≤ maxL (nbL l) + 1 := by
      rcases i1 _ b2m with h | h
      · have := b1l _ h; omega
      · omega
    rw [wrap64_in (i := minL (nbL l) + 1) (by omega) (by omega), wrap64_in (i := maxL (nbL l) + 1) (by omega) (by omega)]
    refine Ev.ite_pos c1 (Ev.ite_pos d1 (Ev.ite_pos d2 (Ev.ite_pos d3 (Ev.ite_pos d4 ?_))))
    rw [decide_eq_true c2]
    exact Ev.now true
end Go.Proofs.Ytnbhkogjamdfhaa.X

/- The nine statements of numbers as bytes, over numbers and lists alone. -/
import Derived.Test.YtffcjconjabekaaPackPure
namespace Go.Proofs.Ytffcjconjabekaa.X
open Go.RowKit Go.Proofs.Ytffcjconjabekaa.PAll Go.Proofs.YtffcjconjabekaaW.PrintWords Go.Proofs.YtffcjconjabekaaW.PrintLast Go.Proofs.YtffcjconjabekaaW.PrintMore

theorem wf_i64 {a : Int} (h : (Lit.int .i64 a).wf = true) : -9223372036854775808 ≤ a ∧ a ≤ 9223372036854775807 := by
  simp [Lit.wf, IntKind.min, IntKind.max, IntKind.bits, IntKind.signed] at h
  omega
theorem wf_u32 {a : Int} (h : (Lit.int .u32 a).wf = true) : 0 ≤ a ∧ a ≤ 4294967295 := by
  simp [Lit.wf, IntKind.min, IntKind.max, IntKind.bits, IntKind.signed] at h
  omega

theorem law_PackPut : clinkerlaw02_PackPut.Pure := by
  intro n hn
  refine Ev.rounds (g := fun k => clinkerlaw02_PackPut.f k n) ?_
  unfold clinkerlaw02_PackPut.f
  refine Ev.bind awake_ev (Ev.ite_pos rfl (Ev.bind (put_ev n) (Ev.bind (rput_ev n) ?_)))
  rw [beq_self_eq_true]
  exact Ev.now true

theorem law_PackPack : clinkerlaw02_PackPack.Pure := by
  intro l hl hb hw
  refine Ev.rounds (g := fun k => clinkerlaw02_PackPack.f k l) ?_
  unfold clinkerlaw02_PackPack.f
  by_cases h : (l.length : Int) > 300
  · exact Ev.ite_pos h (Ev.bind awake_ev (Ev.now true))
  · refine Ev.ite_neg h (Ev.bind (pack_ev l (by omega)) (Ev.bind (rpack_ev l (by omega)) (Ev.bind awake_ev (Ev.ite_pos rfl (Ev.ite_pos rfl ?_)))))
    rw [beq_self_eq_true]
    exact Ev.now true

/-! Few numbers -/
def fewA (n : Nat) : Nat := if n % 3 = 0 then n % 300 else n
def fewB (n : Nat) : Nat := if n % 7 = 1 then n * 250 else n
def fewN (x : Int) : Nat := min (fewB (fewA x.toNat)) top
theorem mn_top (n : Nat) : mn (n : Int) 1099511627776 = ((min n top : Nat) : Int) := by
  unfold mn top
  split <;> omega
theorem few_j1 (l : List Int) (hw : ∀ x ∈ l, 0 ≤ x ∧ x ≤ 4294967295) (i : Nat) (hi : i < l.length) (hi2 : i < 20) (o : List Nat) (ho : o.length = i) (r : List Int)
    (h : Ev (fun k => clinkerlaw02_few.l0 k l (nats (o ++ [fewN (rd l (i : Int))])) ((i + 1 : Nat) : Int)) r) : Ev (fun k => clinkerlaw02_few.j1 k l (nats o) (i : Int) true) r := by
  have hr : 0 ≤ rd l (i : Int) ∧ rd l (i : Int) ≤ 4294967295 := by
    unfold rd
    rw [Int.toNat_natCast, List.getD_eq_getElem?_getD, List.getElem?_eq_getElem hi]
    exact hw _ (List.getElem_mem hi)
  rw [← nats_snoc] at h
  unfold fewN at h
  refine Ev.step (fun k => clinkerlaw02_few.j1.eq_2 ..) (Ev.ite_pos rfl (Ev.ite_pos (by omega) (Ev.ite_pos (by omega) ?_)))
  generalize rd l (i : Int) = x at hr h ⊢
  obtain ⟨n, rfl⟩ := Int.eq_ofNat_of_zero_le hr.1
  rw [Int.toNat_natCast] at h
  have lo : (nats o).length < 17592186044416 := by rw [nats_length]; omega
  have wi : wrap64 ((i : Int) + 1) = ((i + 1 : Nat) : Int) := by rw [wrap64_in (by omega) (by omega)]; omega
  have w : wrap64 (n : Int) = (n : Int) := wrap64_in (by omega) (by omega)
  have tm : ∀ a b : Nat, Int.tmod (a : Int) (b : Int) = ((a % b : Nat) : Int) := fun a b => by rw [Int.tmod_eq_emod_of_nonneg (by omega), Int.natCast_emod]
  have t3 : Int.tmod (n : Int) 3 = ((n % 3 : Nat) : Int) := tm n 3
  have t300 : Int.tmod (n : Int) 300 = ((n % 300 : Nat) : Int) := tm n 300
  have t7 : Int.tmod (n : Int) 7 = ((n % 7 : Nat) : Int) := tm n 7
  have t37 : Int.tmod ((n % 300 : Nat) : Int) 7 = ((n % 300 % 7 : Nat) : Int) := tm (n % 300) 7
  have m1 : wrap64 (((n % 300 : Nat) : Int) * 250) = ((n % 300 * 250 : Nat) : Int) := by rw [wrap64_in (by omega) (by omega)]; omega
  have m2 : wrap64 ((n : Int) * 250) = ((n * 250 : Nat) : Int) := by rw [wrap64_in (by omega) (by omega)]; omega
  rw [w, t3, t300, t7, t37, m1, m2, wi, mn_top, mn_top, mn_top, mn_top]
  clear w tm t3 t300 t7 t37 m1 m2 wi hr hw
  unfold fewA at h
  by_cases h3 : n % 3 = 0
  · rw [if_pos h3] at h
    unfold fewB at h
    refine Ev.ite_pos (by omega) ?_
    by_cases h7 : n % 300 % 7 = 1
    · rw [if_pos h7] at h
      exact Ev.ite_pos (by omega) (Ev.ite_pos lo h)
    · rw [if_neg h7] at h
      exact Ev.ite_neg (by omega) (Ev.ite_pos lo h)
  · rw [if_neg h3] at h
    unfold fewB at h
    refine Ev.ite_neg (by omega) ?_
    by_cases h7 : n % 7 = 1
    · rw [if_pos h7] at h
      exact Ev.ite_pos (by omega) (Ev.ite_pos lo h)
    · rw [if_neg h7] at h
      exact Ev.ite_neg (by omega) (Ev.ite_pos lo h)
def fewL (l : List Int) : List Nat := (l.take 20).map fewN
theorem few_l0 (l : List Int) (hw : ∀ x ∈ l, 0 ≤ x ∧ x ≤ 4294967295) : ∀ (d i : Nat), i + d = min l.length 20 →
    Ev (fun k => clinkerlaw02_few.l0 k l (nats (fewL (l.take i))) (i : Int)) (nats (fewL l))
  | 0, i, hi => by
    have e : fewL (l.take i) = fewL l := by
      unfold fewL
      rw [List.take_take]
      rcases Nat.lt_or_ge 20 l.length with h | h
      · congr 2; omega
      · rw [List.take_of_length_le (by omega), List.take_of_length_le (by omega)]
    rw [e]
    refine Ev.step (fun k => clinkerlaw02_few.l0.eq_2 ..) ?_
    by_cases h : i < l.length
    · refine Ev.ite_pos (by omega) (Ev.step (fun k => clinkerlaw02_few.j1.eq_2 ..) (Ev.ite_neg (not_dec (by omega)) (Ev.now _)))
    · refine Ev.ite_neg (by omega) (Ev.step (fun k => clinkerlaw02_few.j1.eq_2 ..) (Ev.ite_neg (by simp) (Ev.now _)))
  | d + 1, i, hi => by
    have ih := few_l0 l hw d (i + 1) (by omega)
    have hl : i < l.length := by omega
    have e : fewL (l.take (i + 1)) = fewL (l.take i) ++ [fewN (rd l (i : Int))] := by
      unfold fewL
      rw [List.take_take, List.take_take, show min 20 (i + 1) = i + 1 by omega, show min 20 i = i by omega, List.take_succ_eq_append_getElem hl, List.map_append, List.map_cons, List.map_nil]
      congr 3
      unfold rd
      rw [Int.toNat_natCast, List.getD_eq_getElem?_getD, List.getElem?_eq_getElem hl]
      rfl
    rw [e] at ih
    have ho : (fewL (l.take i)).length = i := by unfold fewL; rw [List.length_map, List.length_take, List.length_take]; omega
    refine Ev.step (fun k => clinkerlaw02_few.l0.eq_2 ..) (Ev.ite_pos (by omega) ?_)
    have hd : decide ((i : Int) < 20) = true := decide_eq_true (by omega)
    rw [hd]
    exact few_j1 l hw i hl (by omega) _ ho _ ih
theorem few_ev (l : List Int) (hw : ∀ x ∈ l, (Lit.int .u32 x).wf = true) : Ev (fun k => clinkerlaw02_few.f k l) (nats (fewL l)) := by
  have h := few_l0 l (fun x hx => wf_u32 (hw x hx)) (min l.length 20) 0 (by omega)
  exact h
theorem few_top (l : List Int) : ∀ x ∈ fewL l, x ≤ top := by
  intro x hx
  unfold fewL at hx
  obtain ⟨y, _, rfl⟩ := List.mem_map.mp hx
  unfold fewN
  omega
theorem few_len (l : List Int) : (fewL l).length ≤ 20 := by
  unfold fewL
  rw [List.length_map, List.length_take]
  omega
theorem few_len_top (l : List Int) : (fewL l).length ≤ top := by
  have := few_len l
  unfold top
  omega
theorem packL_len (l : List Nat) (h : ∀ x ∈ l, x ≤ top) (hl : l.length ≤ top) : (packL l).length ≤ 6 + 6 * l.length := by
  have key : ∀ n, n ≤ top → (digs n).length ≤ 6 := fun n hn => by
    have := putI_len (n : Int)
    rwa [putI_nat n hn] at this
  have h1 : (flat l).length ≤ 6 * l.length := by
    clear hl
    induction l with
    | nil => simp [flat]
    | cons x l ih =>
      rw [flat_cons, List.length_append, List.length_cons]
      have := ih (fun y hy => h y (by simp [hy]))
      have := key x (h x (by simp))
      omega
  unfold packL
  rw [List.length_append]
  have := key _ hl
  omega
theorem append_ofL (l : List UInt8) (s : ByteArray) : ofL l ++ s = ofL (l ++ s.data.toList) := by
  conv => lhs; rw [← ofL_of s]
  rw [ofL_append]

theorem law_PackBack : clinkerlaw02_PackBack.Pure := by
  intro l s hl hb hw hs
  refine Ev.rounds (g := fun k => clinkerlaw02_PackBack.f k l s) ?_
  unfold clinkerlaw02_PackBack.f
  have hp := packL_len (fewL l) (few_top l) (few_len_top l)
  have hf := few_len l
  have hu := unpack_ofL (packL (fewL l) ++ s.data.toList) (by rw [List.length_append, data_length]; omega)
  rw [unpack_pack _ (few_top l) (few_len_top l)] at hu
  refine Ev.bind awake_ev (Ev.ite_pos rfl (Ev.bind (few_ev l hw) (Ev.bind (pack_nats _ (few_top l) (few_len_top l)) (Ev.ite_pos (by rw [ofL_size]; omega) ?_))))
  rw [append_ofL]
  refine Ev.bind hu (Ev.ite_pos rfl (Ev.ite_pos rfl (Ev.ite_pos ?_ (Ev.bind (same_ev _ (by rw [nats_length]; omega)) (Ev.now true)))))
  show (ofL s.data.toList).toList = s.toList
  rw [ofL_of]

theorem law_PackTake : clinkerlaw02_PackTake.Pure := by
  intro s hs
  refine Ev.rounds (g := fun k => clinkerlaw02_PackTake.f k s) ?_
  unfold clinkerlaw02_PackTake.f
  by_cases h : (s.size : Int) > 300
  · exact Ev.ite_pos h (Ev.bind awake_ev (Ev.now true))
  · have hs' : s.size ≤ 9223372036854775807 := by omega
    have h1 := unpack_ofL s.data.toList (by rw [data_length]; exact hs')
    have h2 := runpack_ofL s.data.toList (by rw [data_length]; exact hs')
    rw [ofL_of] at h1 h2
    refine Ev.ite_neg h (Ev.bind (take_ev s hs') (Ev.bind (rtake_ev s hs') (Ev.bind h1 (Ev.bind h2 (Ev.bind awake_ev (Ev.ite_pos rfl (Ev.ite_pos rfl (Ev.ite_pos rfl (Ev.ite_pos (by simp) ?_)))))))))
    have hsame : Ev (fun k => clinkerref02_Same.f k (unpackE (unpackL s.data.toList)).1 (unpackE (unpackL s.data.toList)).1) true := by
      refine same_ev _ ?_
      cases hu : unpackL s.data.toList with
      | none => simp [unpackE]
      | some p =>
        obtain ⟨o, r⟩ := p
        have := (unpack_back hu).2.2
        simp only [unpackE]
        rw [nats_length]
        unfold top at this
        omega
    refine Ev.bind hsame (Ev.ite_pos rfl (Ev.ite_pos rfl ?_))
    rw [beq_self_eq_true]
    exact Ev.now true

theorem law_PackShort : clinkerlaw02_PackShort.Pure := by
  intro n hn
  have hn' := wf_i64 hn
  refine Ev.rounds (g := fun k => clinkerlaw02_PackShort.f k n) ?_
  unfold clinkerlaw02_PackShort.f
  refine Ev.bind awake_ev (Ev.ite_pos rfl (Ev.bind (put_ev n) ?_))
  by_cases h0 : n < 0
  · refine Ev.ite_pos h0 (Ev.step (fun k => clinkerlaw02_PackShort.j0.eq_2 ..) (Ev.ite_pos rfl (Ev.ite_pos rfl ?_)))
    unfold putI
    rw [if_neg (by omega), ofL_toList]
    exact Ev.now true
  · refine Ev.ite_neg h0 (Ev.step (fun k => clinkerlaw02_PackShort.j0.eq_2 ..) ?_)
    by_cases h1 : n > 1099511627776
    · refine Ev.ite_pos (decide_eq_true h1) (Ev.ite_pos rfl ?_)
      unfold putI
      rw [if_neg (by omega), ofL_toList]
      exact Ev.now true
    · refine Ev.ite_neg (not_dec h1) ?_
      obtain ⟨m, rfl⟩ := Int.eq_ofNat_of_zero_le (show 0 ≤ n by omega)
      have hm : m ≤ top := by unfold top; omega
      have h6 := putI_len (m : Int)
      rw [putI_nat m hm] at h6 ⊢
      have key : ∀ (x c : Nat) (t : List UInt8), t.length ≤ 6 → t.length = c + (if x = 0 then 0 else (digs x).length) → Ev (fun k => clinkerlaw02_PackShort.l0 k true (ofL t) (c : Int) (x : Int)) true := by
        intro x
        induction x using Nat.strongRecOn with
        | _ x ih =>
          intro c t ht hc
          refine Ev.step (fun k => clinkerlaw02_PackShort.l0.eq_2 ..) ?_
          by_cases hx : x = 0
          · rw [if_pos hx] at hc
            refine Ev.ite_neg (by omega) (Ev.ite_pos rfl (Ev.ite_pos (by rw [ofL_size]; omega) ?_))
            rw [decide_eq_true (show (c : Int) ≤ 6 by omega)]
            exact Ev.now true
          · rw [if_neg hx] at hc
            have hd := digs_pos x
            have e1 : wrap64 ((c : Int) + 1) = ((c + 1 : Nat) : Int) := by rw [wrap64_in (by omega) (by omega)]; omega
            refine Ev.ite_pos (by omega) ?_
            by_cases hbig : x ≤ 9223372036854775807
            · have e2 : wrap64 (Int.tdiv (x : Int) 128) = ((x / 128 : Nat) : Int) := by
                rw [Int.tdiv_eq_ediv_of_nonneg (by omega), wrap64_in (by omega) (by omega)]
                omega
              rw [e1, e2]
              refine ih (x / 128) (by omega) (c + 1) t ht ?_
              by_cases h128 : x < 128
              · rw [if_pos (by omega)]
                rw [digs_small h128] at hc
                simpa using hc
              · rw [if_neg (by omega)]
                rw [digs_more h128] at hc
                simp only [List.length_cons] at hc
                omega
            · exfalso
              have h3 : ∀ (j y : Nat), 128 ^ j ≤ y → j + 1 ≤ (digs y).length := by
                intro j
                induction j with
                | zero => intro y _; exact digs_pos y
                | succ j ihj =>
                  intro y hy
                  have hp := pow_i j
                  have hq : 1 ≤ 128 ^ j := Nat.one_le_pow _ _ (by decide)
                  rw [digs_more (by omega), List.length_cons]
                  have := ihj (y / 128) (by omega)
                  omega
              have := h3 6 x (by omega)
              omega
      have e0 : wrap64 (Int.tdiv (m : Int) 128) = ((m / 128 : Nat) : Int) := by
        rw [Int.tdiv_eq_ediv_of_nonneg (by omega), wrap64_in (by omega) (by omega)]
        omega
      rw [e0]
      refine key (m / 128) 1 (digs m) h6 ?_
      by_cases h128 : m < 128
      · rw [if_pos (by omega), digs_small h128]; rfl
      · rw [if_neg (by omega), digs_more h128, List.length_cons]; omega

theorem snoc_of {α : Type} (l : List α) (h : l ≠ []) : ∃ m x, l = m ++ [x] ∧ l.take (l.length - 1) = m := by
  refine ⟨l.dropLast, l.getLast h, (List.dropLast_concat_getLast h).symm, ?_⟩
  rw [List.dropLast_eq_take]
theorem cut_last (l : List UInt8) (_h : l ≠ []) : (ofL l).extract 0 (l.length - 1) = ofL (l.take (l.length - 1)) := by
  apply bytes_ext
  rw [extract_list]
  rfl
theorem law_PackHeads : clinkerlaw02_PackHeads.Pure := by
  intro a b ha hb
  refine Ev.rounds (g := fun k => clinkerlaw02_PackHeads.f k a b) ?_
  unfold clinkerlaw02_PackHeads.f
  refine Ev.bind awake_ev (Ev.ite_pos rfl (Ev.bind (put_ev a) (Ev.bind (put_ev b) ?_)))
  rw [ofL_toList, ofL_toList]
  by_cases h1 : putI a = []
  · refine Ev.ite_pos h1 (Ev.step (fun k => clinkerlaw02_PackHeads.j0.eq_2 ..) (Ev.ite_pos rfl (Ev.ite_pos rfl (Ev.ite_pos (by rw [ofL_toList]; exact h1) ?_))))
    unfold putI at h1
    by_cases h2 : a < 0
    · exact Ev.ite_pos h2 (Ev.now true)
    · refine Ev.ite_neg h2 ?_
      have h3 : a > 1099511627776 := by
        by_cases h4 : 0 ≤ a ∧ a ≤ 1099511627776
        · rw [if_pos h4] at h1
          exact absurd h1 (digs_ne _)
        · omega
      rw [decide_eq_true h3]
      exact Ev.now true
  · refine Ev.ite_neg h1 (Ev.step (fun k => clinkerlaw02_PackHeads.j0.eq_2 ..) ?_)
    by_cases h2 : putI b = []
    · exact Ev.ite_pos (by rw [h2]; rfl) (Ev.ite_pos rfl (Ev.ite_neg (by rw [ofL_toList]; exact h1) (Ev.now true)))
    · refine Ev.ite_neg (by rw [beq_iff_eq]; exact h2) ?_
      have ra : 0 ≤ a ∧ a ≤ 1099511627776 := by
        unfold putI at h1
        by_cases h4 : 0 ≤ a ∧ a ≤ 1099511627776
        · exact h4
        · rw [if_neg h4] at h1; exact absurd rfl h1
      have rb : 0 ≤ b ∧ b ≤ 1099511627776 := by
        unfold putI at h2
        by_cases h4 : 0 ≤ b ∧ b ≤ 1099511627776
        · exact h4
        · rw [if_neg h4] at h2; exact absurd rfl h2
      obtain ⟨m, rfl⟩ := Int.eq_ofNat_of_zero_le ra.1
      obtain ⟨n, rfl⟩ := Int.eq_ofNat_of_zero_le rb.1
      have hm : m ≤ top := by unfold top; omega
      have hn : n ≤ top := by unfold top; omega
      have lm := putI_len (m : Int)
      have ln := putI_len (n : Int)
      rw [putI_nat m hm] at *
      rw [putI_nat n hn] at *
      have pm := digs_pos m
      have w1 : wrap64 (((ofL (digs m)).size : Int) - 1) = (((digs m).length - 1 : Nat) : Int) := by rw [ofL_size, wrap64_in (by omega) (by omega)]; omega
      rw [w1, Int.toNat_natCast, cut_last _ (digs_ne m), ofL_append]
      obtain ⟨p, x, e1, e2⟩ := snoc_of (digs m) (digs_ne m)
      have t1 := take_ofL ((digs m).take ((digs m).length - 1)) (by rw [List.length_take]; omega)
      rw [e2, take0_cut m hm p x e1] at t1
      rw [e2]
      have t2 := take_ofL (digs m ++ digs n) (by rw [List.length_append]; omega)
      rw [take0_digs m hm] at t2
      refine Ev.ite_pos (by omega) (Ev.ite_pos (by rw [ofL_size]; omega) (Ev.bind t1 (Ev.ite_pos (by rw [ofL_size, ofL_size]; omega) (Ev.bind t2 ?_))))
      by_cases hge : ((ofL (digs n)).size : Int) ≥ ((ofL (digs m)).size : Int)
      · refine Ev.ite_pos hge (Ev.ite_pos (by omega) (Ev.ite_pos (by omega) (Ev.ite_pos rfl (Ev.ite_neg (by simp [takeE]) (Ev.ite_pos rfl (Ev.ite_pos rfl (Ev.ite_pos rfl ?_)))))))
        have eq : (((ofL (digs n)).extract 0 (((ofL (digs m)).size : Int)).toNat).toList == (ofL (digs m)).toList) = ((m : Int) == (n : Int)) := by
          rw [Bool.eq_iff_iff, beq_iff_eq, beq_iff_eq, toList_eq, extract_list, ofL_toList, Int.toNat_natCast, ofL_list, ofL_size]
          constructor
          · intro h
            have := digs_pre m n hm hn ((digs n).drop (digs m).length) (by conv => lhs; rw [← List.take_append_drop (digs m).length (digs n), h])
            omega
          · intro h
            have : m = n := by omega
            subst this
            rw [List.take_of_length_le (Nat.le_refl _)]
        rw [eq, beq_self_eq_true]
        exact Ev.now true
      · refine Ev.ite_neg hge (Ev.ite_pos rfl (Ev.ite_neg (by simp [takeE]) (Ev.ite_pos rfl (Ev.ite_pos rfl (Ev.ite_pos rfl ?_)))))
        have : ((m : Int) == (n : Int)) = false := by
          rw [beq_eq_false_iff_ne]
          intro h
          have : m = n := by omega
          subst this
          exact hge (Int.le_refl _)
        rw [this]
        exact Ev.now true

theorem law_PackAgain : clinkerlaw02_PackAgain.Pure := by
  intro s hs
  refine Ev.rounds (g := fun k => clinkerlaw02_PackAgain.f k s) ?_
  unfold clinkerlaw02_PackAgain.f
  have hs' : s.size ≤ 9223372036854775807 := by omega
  have hl : s.data.toList.length = s.size := data_length s
  have h1 := unpack_ofL s.data.toList (by omega)
  rw [ofL_of] at h1
  refine Ev.bind awake_ev (Ev.ite_pos rfl (Ev.bind (take_ev s hs') ?_))
  cases ht : take0 s.data.toList with
  | none => exact Ev.ite_neg (by simp [takeE]) (Ev.ite_pos rfl (by simp only [takeE, ← ofL_nil, ofL_toList]; exact Ev.now true))
  | some p =>
    obtain ⟨n, r⟩ := p
    obtain ⟨e1, e2⟩ := take0_back ht
    have hlen : (digs n).length + r.length = s.size := by rw [← hl, e1, List.length_append]
    have eput : (ofL (digs n) ++ ofL r).toList = s.toList := by rw [ofL_append, ofL_toList, toList_eq, e1]
    refine Ev.ite_pos rfl (Ev.bind h1 ?_)
    have case1 : ∀ (o : List Int) (q : ByteArray), Ev (fun k => clinkerlaw02_PackAgain.j0 k s true (n : Int) (ofL r) o q true) true := by
      intro o q
      have hp := put_ev (n : Int)
      rw [putI_nat n e2] at hp
      refine Ev.step (fun k => clinkerlaw02_PackAgain.j0.eq_2 ..) (Ev.ite_pos rfl (Ev.ite_pos rfl (Ev.bind hp (Ev.ite_pos (by rw [ofL_size, ofL_size]; omega) ?_))))
      rw [eput, beq_self_eq_true]
      exact Ev.now true
    by_cases hbig : (s.size : Int) > 300
    · exact Ev.ite_pos hbig (case1 _ _)
    · refine Ev.ite_neg hbig ?_
      cases hu : unpackL s.data.toList with
      | none => exact case1 _ _
      | some p =>
        obtain ⟨o, q⟩ := p
        obtain ⟨u1, u2, u3⟩ := unpack_back hu
        have hp := put_ev (n : Int)
        rw [putI_nat n e2] at hp
        have ulen : (packL o).length + q.length = s.size := by rw [← hl, u1, List.length_append]
        have upk : (ofL (packL o) ++ ofL q).toList = s.toList := by rw [ofL_append, ofL_toList, toList_eq, u1]
        refine Ev.step (fun k => clinkerlaw02_PackAgain.j0.eq_2 ..) (Ev.ite_neg (by simp [unpackE]) (Ev.bind (pack_nats o u2 u3) (Ev.ite_pos rfl (Ev.bind hp (Ev.ite_pos ?_ (Ev.ite_pos eput (Ev.ite_pos rfl (Ev.ite_pos ?_ ?_))))))))
        · show (ofL (digs n)).size + (ofL r).size ≤ _
          rw [ofL_size, ofL_size]; omega
        · show (ofL (packL o)).size + (ofL q).size ≤ _
          rw [ofL_size, ofL_size]; omega
        · simp only [unpackE]
          rw [upk, beq_self_eq_true]
          exact Ev.now true

theorem law_PackCut : clinkerlaw02_PackCut.Pure := by
  intro l hl hb hw
  refine Ev.rounds (g := fun k => clinkerlaw02_PackCut.f k l) ?_
  unfold clinkerlaw02_PackCut.f
  have hp := packL_len (fewL l) (few_top l) (few_len_top l)
  have hf := few_len l
  have hne : packL (fewL l) ≠ [] := by unfold packL; simp [digs_ne]
  have hpos : 1 ≤ (packL (fewL l)).length := by
    cases h : packL (fewL l) with
    | nil => exact absurd h hne
    | cons x y => simp
  obtain ⟨p, x, e1, e2⟩ := snoc_of (packL (fewL l)) hne
  have hu := unpack_ofL p (by have := congrArg List.length e1; simp at this; omega)
  rw [unpack_cut _ (few_top l) (few_len_top l) p x e1] at hu
  refine Ev.bind awake_ev (Ev.ite_pos rfl (Ev.bind (few_ev l hw) (Ev.bind (pack_nats _ (few_top l) (few_len_top l)) (Ev.ite_pos rfl (Ev.ite_neg (by rw [ofL_toList]; exact hne) ?_)))))
  have w1 : wrap64 (((ofL (packL (fewL l))).size : Int) - 1) = (((packL (fewL l)).length - 1 : Nat) : Int) := by rw [ofL_size, wrap64_in (by omega) (by omega)]; omega
  rw [w1, Int.toNat_natCast, cut_last _ hne, e2]
  exact Ev.ite_pos (by omega) (Ev.ite_pos (by rw [ofL_size]; omega) (Ev.bind hu (Ev.ite_pos rfl (Ev.ite_pos rfl (by simp only [unpackE, ← ofL_nil, ofL_toList]; exact Ev.now true)))))

theorem law_PackTwo : clinkerlaw02_PackTwo.Pure := by
  intro l m hl1 hl2 hlw hm1 hm2 hmw
  refine Ev.rounds (g := fun k => clinkerlaw02_PackTwo.f k l m) ?_
  unfold clinkerlaw02_PackTwo.f
  have pl := packL_len (fewL l) (few_top l) (few_len_top l)
  have fl := few_len l
  have pm := packL_len (fewL m) (few_top m) (few_len_top m)
  have fm := few_len m
  have hu := unpack_ofL (packL (fewL l) ++ packL (fewL m)) (by rw [List.length_append]; omega)
  rw [unpack_pack _ (few_top l) (few_len_top l)] at hu
  have hv := unpack_ofL (packL (fewL m)) (by omega)
  have hv2 := unpack_pack (fewL m) (few_top m) (few_len_top m) []
  rw [List.append_nil] at hv2
  rw [hv2] at hv
  refine Ev.bind awake_ev (Ev.ite_pos rfl (Ev.bind (few_ev l hlw) (Ev.bind (pack_nats _ (few_top l) (few_len_top l)) (Ev.bind (few_ev m hmw) (Ev.bind (pack_nats _ (few_top m) (few_len_top m)) (Ev.ite_pos (by rw [ofL_size, ofL_size]; omega) ?_))))))
  rw [ofL_append]
  refine Ev.bind hu (Ev.bind hv (Ev.ite_pos rfl (Ev.ite_pos rfl (Ev.ite_pos rfl (Ev.ite_pos rfl (Ev.ite_pos ?_ (Ev.bind (few_ev l hlw) (Ev.bind (same_ev (nats (fewL l)) (by rw [nats_length]; omega)) (Ev.ite_pos rfl (Ev.bind (few_ev m hmw) (Ev.bind (same_ev (nats (fewL m)) (by rw [nats_length]; omega)) (Ev.now true))))))))))))
  exact ofL_toList []

end Go.Proofs.Ytffcjconjabekaa.X

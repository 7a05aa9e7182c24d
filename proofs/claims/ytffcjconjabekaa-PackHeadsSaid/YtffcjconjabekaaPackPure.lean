/- What the printed functions of numbers as bytes come to: the plain words of PackMath. -/
import Derived.Test.YtffcjconjabekaaPackMath
import Derived.Test.YtffcjconjabekaaPAllx
namespace Go.Proofs.Ytffcjconjabekaa.X
open Go.RowKit Go.Proofs.Ytffcjconjabekaa.PAll Go.Proofs.YtffcjconjabekaaW.PrintWords Go.Proofs.YtffcjconjabekaaW.PrintLast Go.Proofs.YtffcjconjabekaaW.PrintMore

/-! Put -/
def putI (x : Int) : List UInt8 := if 0 ≤ x ∧ x ≤ 1099511627776 then digs x.toNat else []
theorem putI_nat (n : Nat) (h : n ≤ top) : putI (n : Int) = digs n := by
  unfold putI top at *
  rw [if_pos (by omega), Int.toNat_natCast]
theorem byte_mod (n : Nat) (h : n < 128) : ((n : Int) % 256) = ((UInt8.ofNat n).toNat : Int) := by
  rw [byte_nat n (by omega)]; omega
theorem put_l0 : ∀ (n : Nat) (pre : List UInt8), pre.length + n < 140737488355328 → Ev (fun k => pack_Put.l0 k (n : Int) (ints pre)) (ofL (pre ++ digs n)) := by
  intro n
  induction n using Nat.strongRecOn with
  | _ n ih =>
    intro pre hl
    refine Ev.step (fun k => pack_Put.l0.eq_2 ..) ?_
    by_cases h : n < 128
    · rw [digs_small h]
      refine Ev.ite_neg (by omega) (Ev.ite_pos (by rw [ints_length]; omega) ?_)
      rw [byte_mod n h, ints_snoc, str_ofL]
      exact Ev.now _
    · rw [digs_more h]
      have := ih (n / 128) (by omega) (pre ++ [UInt8.ofNat (128 + n % 128)]) (by simp; omega)
      rw [List.append_assoc, List.singleton_append] at this
      refine Ev.ite_pos (by omega) (Ev.ite_pos (by rw [ints_length]; omega) ?_)
      rw [or128, ints_snoc]
      exact this
theorem put_ev (x : Int) : Ev (fun k => pack_Put.f k x) (ofL (putI x)) := by
  unfold pack_Put.f putI
  by_cases h0 : x < 0
  · rw [if_neg (by omega)]
    exact Ev.ite_pos h0 (Ev.step (fun k => pack_Put.j0.eq_2 ..) (Ev.ite_pos rfl (Ev.now _)))
  · refine Ev.ite_neg h0 (Ev.step (fun k => pack_Put.j0.eq_2 ..) ?_)
    by_cases h1 : x > 1099511627776
    · rw [if_neg (by omega)]
      exact Ev.ite_pos (decide_eq_true h1) (Ev.now _)
    · rw [if_pos (by omega)]
      refine Ev.ite_neg (by rw [decide_eq_true_iff]; exact h1) ?_
      have := put_l0 x.toNat [] (by simp; omega)
      rw [Int.toNat_of_nonneg (by omega)] at this
      exact this

theorem rput_l0 : ∀ (n : Nat) (pre : List UInt8), pre.length + n < 140737488355328 → Ev (fun k => clinkerref02_Put.l0 k (n : Int) (ofL pre)) (ofL (pre ++ digs n)) := by
  intro n
  induction n using Nat.strongRecOn with
  | _ n ih =>
    intro pre hl
    refine Ev.step (fun k => clinkerref02_Put.l0.eq_2 ..) ?_
    by_cases h : n < 128
    · rw [digs_small h]
      refine Ev.ite_neg (by omega) (Ev.pure_ ?_)
      have e : strOfNums [(n : Int) % 256] = ofL [UInt8.ofNat n] := by
        rw [byte_mod n h]
        exact str_ofL [UInt8.ofNat n]
      rw [e, ofL_append, ofL_size, ofL_size]
      exact Ev.ite_pos (by simp; omega) (Ev.now _)
    · rw [digs_more h]
      have := ih (n / 128) (by omega) (pre ++ [UInt8.ofNat (128 + n % 128)]) (by simp; omega)
      rw [List.append_assoc, List.singleton_append] at this
      refine Ev.ite_pos (by omega) (Ev.pure_ ?_)
      have e1 : wrap64 (128 + Int.tmod (n : Int) 128) % 256 = ((UInt8.ofNat (128 + n % 128)).toNat : Int) := by
        rw [byte_nat _ (by omega), Int.tmod_eq_emod_of_nonneg (by omega), wrap64_in (by omega) (by omega)]
        omega
      have e2 : wrap64 (Int.tdiv (n : Int) 128) = ((n / 128 : Nat) : Int) := by
        rw [Int.tdiv_eq_ediv_of_nonneg (by omega), wrap64_in (by omega) (by omega)]
        omega
      have e : strOfNums [wrap64 (128 + Int.tmod (n : Int) 128) % 256] = ofL [UInt8.ofNat (128 + n % 128)] := by
        rw [e1]
        exact str_ofL [UInt8.ofNat (128 + n % 128)]
      rw [e, e2, ofL_append, ofL_size, ofL_size]
      exact Ev.ite_pos (by simp; omega) this
theorem rput_ev (x : Int) : Ev (fun k => clinkerref02_Put.f k x) (ofL (putI x)) := by
  unfold clinkerref02_Put.f putI
  by_cases h0 : x < 0
  · rw [if_neg (by omega)]
    exact Ev.ite_pos h0 (Ev.step (fun k => clinkerref02_Put.j0.eq_2 ..) (Ev.ite_pos rfl (Ev.now _)))
  · refine Ev.ite_neg h0 (Ev.step (fun k => clinkerref02_Put.j0.eq_2 ..) ?_)
    by_cases h1 : x > 1099511627776
    · rw [if_neg (by omega)]
      exact Ev.ite_pos (decide_eq_true h1) (Ev.now _)
    · rw [if_pos (by omega)]
      refine Ev.ite_neg (by rw [decide_eq_true_iff]; exact h1) ?_
      have := rput_l0 x.toNat [] (by simp; omega)
      rw [Int.toNat_of_nonneg (by omega)] at this
      exact this

/-! Pack -/
def packS : List Int → List UInt8 → Option (List UInt8)
  | [], acc => some acc
  | x :: l, acc => if putI x = [] then none else packS l (acc ++ putI x)
def packE : Option (List UInt8) → ByteArray × Int
  | some l => (ofL l, 0)
  | none => (⟨#[]⟩, 1)
theorem putI_len (x : Int) : (putI x).length ≤ 6 := by
  unfold putI
  split
  · rename_i h
    have key : ∀ (j n : Nat), n < 128 ^ (j + 1) → (digs n).length ≤ j + 1 := by
      intro j
      induction j with
      | zero => intro n hn; rw [digs_small (by omega)]; simp
      | succ j ih =>
        intro n hn
        by_cases h : n < 128
        · rw [digs_small h]; simp
        · rw [digs_more h, List.length_cons]
          have h2 : 128 ^ (j + 1 + 1) = 128 * 128 ^ (j + 1) := pow_i (j + 1)
          have := ih (n / 128) (by omega)
          omega
    exact key 5 x.toNat (by omega)
  · simp
theorem drop_rd (l : List Int) (i : Nat) (h : i < l.length) : l.drop i = rd l (i : Int) :: l.drop (i + 1) := by
  rw [List.drop_eq_getElem_cons h]
  congr 1
  unfold rd
  rw [Int.toNat_natCast, List.getD_eq_getElem?_getD, List.getElem?_eq_getElem h]
  rfl
theorem pack_l0 (l : List Int) (hl : l.length ≤ 9223372036854775807) : ∀ (d i : Nat) (acc : List UInt8), i + d = l.length → acc.length + 6 * d ≤ 9223372036854775807 →
    Ev (fun k => pack_Pack.l0 k (ofL acc) l (l.length : Int) (i : Int)) (packE (packS (l.drop i) acc))
  | 0, i, acc, hi, _ => by
    rw [List.drop_eq_nil_of_le (by omega)]
    refine Ev.step (fun k => pack_Pack.l0.eq_2 ..) (Ev.ite_neg (by omega) ?_)
    exact Ev.now _
  | d + 1, i, acc, hi, ha => by
    rw [drop_rd l i (by omega)]
    have h6 := putI_len (rd l (i : Int))
    refine Ev.step (fun k => pack_Pack.l0.eq_2 ..) (Ev.ite_pos (by omega) (Ev.ite_pos (by omega) (Ev.ite_pos (by omega) (Ev.bind (put_ev _) ?_))))
    rw [ofL_toList]
    simp only [packS]
    by_cases h : putI (rd l (i : Int)) = []
    · rw [if_pos h]
      exact Ev.ite_pos h (Ev.now _)
    · rw [if_neg h]
      have := pack_l0 l hl d (i + 1) (acc ++ putI (rd l (i : Int))) (by omega) (by rw [List.length_append]; omega)
      refine Ev.ite_neg h ?_
      rw [ofL_size, ofL_size, ofL_append, wrap64_in (by omega) (by omega)]
      exact Ev.ite_pos (by omega) this
theorem pack_ev (l : List Int) (hl : l.length * 6 + 6 ≤ 9223372036854775807) : Ev (fun k => pack_Pack.f k l) (packE (packS l (putI (l.length : Int)))) := by
  unfold pack_Pack.f
  have h6 := putI_len (l.length : Int)
  have := pack_l0 l (by omega) l.length 0 (putI (l.length : Int)) (by omega) (by omega)
  rw [List.drop_zero] at this
  exact Ev.bind (put_ev _) this
theorem rpack_l0 (l : List Int) (hl : l.length ≤ 9223372036854775807) : ∀ (d i : Nat) (acc : List UInt8), i + d = l.length → acc.length + 6 * d ≤ 9223372036854775807 →
    Ev (fun k => clinkerref02_Pack.l0 k l (ofL acc) (i : Int)) (packE (packS (l.drop i) acc))
  | 0, i, acc, hi, _ => by
    rw [List.drop_eq_nil_of_le (by omega)]
    refine Ev.step (fun k => clinkerref02_Pack.l0.eq_2 ..) (Ev.ite_neg (by omega) ?_)
    exact Ev.now _
  | d + 1, i, acc, hi, ha => by
    rw [drop_rd l i (by omega)]
    have h6 := putI_len (rd l (i : Int))
    refine Ev.step (fun k => clinkerref02_Pack.l0.eq_2 ..) (Ev.ite_pos (by omega) (Ev.ite_pos (by omega) (Ev.bind (rput_ev _) ?_)))
    rw [ofL_toList]
    simp only [packS]
    by_cases h : putI (rd l (i : Int)) = []
    · rw [if_pos h]
      exact Ev.ite_pos h (Ev.now _)
    · rw [if_neg h]
      have := rpack_l0 l hl d (i + 1) (acc ++ putI (rd l (i : Int))) (by omega) (by rw [List.length_append]; omega)
      refine Ev.ite_neg h ?_
      rw [ofL_size, ofL_size, ofL_append, wrap64_in (by omega) (by omega)]
      exact Ev.ite_pos (by omega) this
theorem rpack_ev (l : List Int) (hl : l.length * 6 + 6 ≤ 9223372036854775807) : Ev (fun k => clinkerref02_Pack.f k l) (packE (packS l (putI (l.length : Int)))) := by
  unfold clinkerref02_Pack.f
  have h6 := putI_len (l.length : Int)
  have := rpack_l0 l (by omega) l.length 0 (putI (l.length : Int)) (by omega) (by omega)
  rw [List.drop_zero] at this
  exact Ev.bind (rput_ev _) this
/-- Natural numbers as Go's. -/
def nats (l : List Nat) : List Int := l.map fun (n : Nat) => (n : Int)
theorem nats_length (l : List Nat) : (nats l).length = l.length := by unfold nats; rw [List.length_map]
theorem packS_nats : ∀ (l : List Nat) (acc : List UInt8), (∀ x ∈ l, x ≤ top) → packS (nats l) acc = some (acc ++ flat l)
  | [], acc, _ => by simp [nats, packS, flat]
  | x :: l, acc, h => by
    have hx := h x (by simp)
    have := packS_nats l (acc ++ digs x) (fun y hy => h y (by simp [hy]))
    unfold nats at this ⊢
    simp only [List.map_cons, packS]
    rw [putI_nat x hx, if_neg (digs_ne x), this, flat_cons, List.append_assoc]
theorem pack_nats (l : List Nat) (h : ∀ x ∈ l, x ≤ top) (hl : l.length ≤ top) : Ev (fun k => pack_Pack.f k (nats l)) (ofL (packL l), 0) := by
  have h1 := pack_ev (nats l) (by rw [nats_length]; unfold top at hl; omega)
  rw [nats_length, putI_nat _ hl, packS_nats l _ h] at h1
  exact h1

/-! Take -/
def takeE : Option (Nat × List UInt8) → Int × ByteArray × Bool
  | some (n, r) => ((n : Int), ofL r, true)
  | none => (0, ⟨#[]⟩, false)
theorem drop_bt (s : ByteArray) (i : Nat) (h : i < s.size) : ∃ x, s.data.toList.drop i = x :: s.data.toList.drop (i + 1) ∧ wrap64 (bt s (i : Int)) = (x.toNat : Int) := by
  obtain ⟨x, rest, e1, e2, e3⟩ := bt_get s i h
  refine ⟨x, by rw [e1, e2], ?_⟩
  have := x.toNat_lt
  rw [e3, wrap64_in (by omega) (by omega)]
theorem pow_step {n c i : Nat} (hn : n < 128 ^ i) (hc : c < 128) : n + c * 128 ^ i < 128 ^ (i + 1) := by
  rw [pow_i]
  have h1 : c * 128 ^ i ≤ 127 * 128 ^ i := Nat.mul_le_mul_right _ (by omega)
  omega
theorem finish_eq (n : Nat) (r : List UInt8) (ok : Bool) : pack_finish.f (n : Int) (ofL r) ok = some (takeE (if ok = true ∧ n ≤ top then some (n, r) else none)) := by
  unfold pack_finish.f top
  cases ok
  · rw [if_neg (by simp), if_neg (by simp)]; rfl
  · rw [if_pos rfl]
    by_cases h : (n : Int) > 1099511627776
    · rw [if_pos h, if_neg (by omega)]; rfl
    · rw [if_neg h, if_pos ⟨rfl, by omega⟩]; rfl
theorem take_l0 (s : ByteArray) (hs : s.size ≤ 9223372036854775807) : ∀ (d i n : Nat), i + d = min s.size 6 → n < 128 ^ i →
    Ev (fun k => pack_Take.l0 k s (n : Int) ((min s.size 6 : Nat) : Int) (i : Int)) (takeE (takeL i n (s.data.toList.drop i)))
  | 0, i, n, hi, _ => by
    have e : takeL i n (s.data.toList.drop i) = none := by
      rcases Nat.lt_or_ge i s.size with h | h
      · obtain ⟨x, e1, _⟩ := drop_bt s i h
        rw [e1]
        simp only [takeL]
        rw [if_pos (by omega)]
      · rw [List.drop_eq_nil_of_le (by rw [data_length]; omega)]
        rfl
    rw [e]
    exact Ev.step (fun k => pack_Take.l0.eq_2 ..) (Ev.ite_neg (by omega) (Ev.now _))
  | d + 1, i, n, hi, hn => by
    obtain ⟨x, e1, e2⟩ := drop_bt s i (by omega)
    have hx := x.toNat_lt
    rw [e1]
    simp only [takeL]
    rw [if_neg (by omega)]
    have hw : wrap64 ((i : Int) + 1) = ((i + 1 : Nat) : Int) := by rw [wrap64_in (by omega) (by omega)]; omega
    refine Ev.step (fun k => pack_Take.l0.eq_2 ..) (Ev.ite_pos (by omega) (Ev.ite_pos (by omega) (Ev.ite_pos (by omega) ?_)))
    refine Ev.ite_pos (by rw [wrap64_in (by omega) (by omega)]; omega) ?_
    rw [e2, andnot128, or_join n (x.toNat % 128) i (by clear hn; omega) hn (Nat.mod_lt _ (by decide)), hw, Int.toNat_natCast, extract_from]
    have hn2 := pow_step hn (Nat.mod_lt x.toNat (show 0 < 128 by decide))
    clear hn
    obtain ⟨v, hv⟩ : ∃ v, n + x.toNat % 128 * 128 ^ i = v := ⟨_, rfl⟩
    rw [hv] at hn2 ⊢
    clear hv
    by_cases hc : x.toNat < 128
    · rw [if_pos hc]
      refine Ev.ite_pos (by omega) (Ev.ite_pos (by omega) (Ev.ite_pos (by omega) ?_))
      by_cases h0 : i = 0
      · refine Ev.ite_pos (by omega) ?_
        rw [finish_eq]
        have e : (if true = true ∧ v ≤ top then some (v, s.data.toList.drop (i + 1)) else none) = (if (i = 0 ∨ 0 < x.toNat) ∧ v ≤ top then some (v, s.data.toList.drop (i + 1)) else none) := by simp [h0]
        rw [e]
        exact Ev.pure_ (Ev.now _)
      · refine Ev.ite_neg (by omega) ?_
        rw [finish_eq]
        have e : (if decide ((x.toNat : Int) > 0) = true ∧ v ≤ top then some (v, s.data.toList.drop (i + 1)) else none) = (if (i = 0 ∨ 0 < x.toNat) ∧ v ≤ top then some (v, s.data.toList.drop (i + 1)) else none) := by simp [h0]
        rw [e]
        exact Ev.pure_ (Ev.now _)
    · rw [if_neg hc]
      refine Ev.ite_neg (by omega) ?_
      exact take_l0 s hs d (i + 1) _ (by omega) hn2
theorem take_ev (s : ByteArray) (hs : s.size ≤ 9223372036854775807) : Ev (fun k => pack_Take.f k s) (takeE (take0 s.data.toList)) := by
  have h := take_l0 s hs (min s.size 6) 0 0 (by omega) (by decide)
  rw [List.drop_zero] at h
  unfold pack_Take.f take0
  have e : mn (s.size : Int) 6 = ((min s.size 6 : Nat) : Int) := by
    unfold mn
    split <;> omega
  rw [e]
  exact h
theorem take_ofL (l : List UInt8) (hl : l.length ≤ 9223372036854775807) : Ev (fun k => pack_Take.f k (ofL l)) (takeE (take0 l)) := take_ev (ofL l) hl

theorem unit_step (i : Nat) (hi : i < 6) : wrap64 (((128 ^ i : Nat) : Int) * 128) = ((128 ^ (i + 1) : Nat) : Int) := by
  have : i = 0 ∨ i = 1 ∨ i = 2 ∨ i = 3 ∨ i = 4 ∨ i = 5 := by omega
  rcases this with rfl | rfl | rfl | rfl | rfl | rfl <;> (unfold wrap64; omega)
theorem sum_step (n c i : Nat) (hi : i < 6) (hn : n < 128 ^ i) (hc : c < 128) : wrap64 ((n : Int) + wrap64 ((c : Int) * ((128 ^ i : Nat) : Int))) = ((n + c * 128 ^ i : Nat) : Int) := by
  have : i = 0 ∨ i = 1 ∨ i = 2 ∨ i = 3 ∨ i = 4 ∨ i = 5 := by omega
  rcases this with rfl | rfl | rfl | rfl | rfl | rfl <;> (unfold wrap64; omega)
theorem rtake_l0 (s : ByteArray) (hs : s.size ≤ 9223372036854775807) : ∀ (d i n : Nat), i + d = min s.size 6 → n < 128 ^ i →
    Ev (fun k => clinkerref02_Take.l0 k s (n : Int) ((128 ^ i : Nat) : Int) (i : Int)) (takeE (takeL i n (s.data.toList.drop i)))
  | 0, i, n, hi, hn => by
    clear hn
    rcases Nat.lt_or_ge i s.size with h | h
    · obtain ⟨x, e1, _⟩ := drop_bt s i h
      rw [e1]
      simp only [takeL]
      rw [if_pos (by omega)]
      refine Ev.step (fun k => clinkerref02_Take.l0.eq_2 ..) (Ev.ite_pos (by omega) (Ev.step (fun k => clinkerref02_Take.j1.eq_2 ..) (Ev.ite_neg ?_ (Ev.now _))))
      rw [decide_eq_true_iff]
      omega
    · rw [List.drop_eq_nil_of_le (by rw [data_length]; omega)]
      exact Ev.step (fun k => clinkerref02_Take.l0.eq_2 ..) (Ev.ite_neg (by omega) (Ev.step (fun k => clinkerref02_Take.j1.eq_2 ..) (Ev.ite_neg (by simp) (Ev.now _))))
  | d + 1, i, n, hi, hn => by
    have HN := Aside0.mk hn
    clear hn
    obtain ⟨x, e1, e2⟩ := drop_bt s i (by omega)
    have hx := x.toNat_lt
    rw [e1]
    simp only [takeL]
    rw [if_neg (by omega)]
    have hm : Int.tmod (x.toNat : Int) 128 = ((x.toNat % 128 : Nat) : Int) := by rw [Int.tmod_eq_emod_of_nonneg (by omega)]; omega
    have hw : wrap64 ((i : Int) + 1) = ((i + 1 : Nat) : Int) := by rw [wrap64_in (by omega) (by omega)]; omega
    refine Ev.step (fun k => clinkerref02_Take.l0.eq_2 ..) (Ev.ite_pos (by omega) (Ev.step (fun k => clinkerref02_Take.j1.eq_2 ..) (Ev.ite_pos (decide_eq_true (by omega)) (Ev.ite_pos (by omega) (Ev.ite_pos (by omega) ?_)))))
    rw [e2, hm, sum_step n (x.toNat % 128) i (by omega) HN.out (Nat.mod_lt _ (by decide)), hw, Int.toNat_natCast, extract_from, unit_step i (by omega)]
    have hn2 := pow_step HN.out (Nat.mod_lt x.toNat (show 0 < 128 by decide))
    clear HN
    obtain ⟨v, hv⟩ : ∃ v, n + x.toNat % 128 * 128 ^ i = v := ⟨_, rfl⟩
    rw [hv] at hn2 ⊢
    clear hv
    by_cases hc : x.toNat < 128
    · refine Ev.ite_pos (by omega) ?_
      rw [if_pos hc]
      unfold top
      by_cases hb : (v : Int) > 1099511627776
      · refine Ev.ite_pos hb ?_
        rw [if_neg (by omega)]
        exact Ev.now _
      · refine Ev.ite_neg hb ?_
        by_cases h0 : i = 0
        · refine Ev.ite_neg (by omega) (Ev.ite_pos (by omega) (Ev.ite_pos (by omega) ?_))
          rw [if_pos (by omega)]
          exact Ev.now _
        · refine Ev.ite_pos (by omega) ?_
          by_cases hz : x.toNat = 0
          · refine Ev.ite_pos (by omega) ?_
            rw [if_neg (by omega)]
            exact Ev.now _
          · refine Ev.ite_neg (by omega) (Ev.ite_pos (by omega) (Ev.ite_pos (by omega) ?_))
            rw [if_pos (by omega)]
            exact Ev.now _
    · refine Ev.ite_neg (by omega) ?_
      rw [if_neg hc]
      exact rtake_l0 s hs d (i + 1) _ (by omega) hn2
theorem rtake_ev (s : ByteArray) (hs : s.size ≤ 9223372036854775807) : Ev (fun k => clinkerref02_Take.f k s) (takeE (take0 s.data.toList)) := by
  have h := rtake_l0 s hs (min s.size 6) 0 0 (by omega) (by decide)
  rw [List.drop_zero] at h
  exact h
theorem rtake_ofL (l : List UInt8) (hl : l.length ≤ 9223372036854775807) : Ev (fun k => clinkerref02_Take.f k (ofL l)) (takeE (take0 l)) := rtake_ev (ofL l) hl

/-! Unpack -/
def unpackE : Option (List Nat × List UInt8) → List Int × ByteArray × Int
  | some (o, r) => (nats o, ofL r, 0)
  | none => ([], ⟨#[]⟩, 20)
theorem take0_short {l r : List UInt8} {n : Nat} (h : take0 l = some (n, r)) : r.length < l.length := by
  obtain ⟨rfl, _⟩ := take0_back h
  have := digs_pos n
  rw [List.length_append]
  omega
theorem nats_snoc (o : List Nat) (k : Nat) : nats o ++ [(k : Int)] = nats (o ++ [k]) := by simp [nats]
theorem unpack_l0 (m : Nat) (hm : m ≤ top) : ∀ (d i : Nat) (out : List Nat) (l : List UInt8), i + d = m → out.length = i → l.length ≤ 9223372036854775807 →
    Ev (fun k => pack_Unpack.l0 k (nats out) (ofL l) (m : Int) (i : Int)) (unpackE (loopU d out l))
  | 0, i, out, l, hi, _, _ => by
    refine Ev.step (fun k => pack_Unpack.l0.eq_2 ..) (Ev.ite_neg (by omega) ?_)
    exact Ev.now _
  | d + 1, i, out, l, hi, ho, hl => by
    refine Ev.step (fun k => pack_Unpack.l0.eq_2 ..) (Ev.ite_pos (by omega) (Ev.bind (take_ofL l hl) ?_))
    simp only [loopU]
    cases ht : take0 l with
    | none => exact Ev.ite_neg (by simp [takeE]) (Ev.now _)
    | some p =>
      obtain ⟨k, r⟩ := p
      have h1 := take0_short ht
      have ih := unpack_l0 m hm d (i + 1) (out ++ [k]) r (by omega) (by simp [ho]) (by omega)
      unfold top at hm
      refine Ev.ite_pos rfl (Ev.ite_pos (by rw [nats_length]; omega) ?_)
      rw [wrap64_in (by omega) (by omega)]
      simp only [takeE]
      rw [nats_snoc]
      exact ih
theorem unpack_ofL (l : List UInt8) (hl : l.length ≤ 9223372036854775807) : Ev (fun k => pack_Unpack.f k (ofL l)) (unpackE (unpackL l)) := by
  unfold pack_Unpack.f unpackL
  refine Ev.bind (take_ofL l hl) ?_
  cases ht : take0 l with
  | none => exact Ev.ite_neg (by simp [takeE]) (Ev.step (fun k => pack_Unpack.j0.eq_2 ..) (Ev.ite_pos rfl (Ev.now _)))
  | some p =>
    obtain ⟨n, r⟩ := p
    have h1 := take0_short ht
    refine Ev.ite_pos rfl (Ev.step (fun k => pack_Unpack.j0.eq_2 ..) ?_)
    simp only [takeE, ofL_size]
    by_cases h : r.length < n
    · rw [if_pos h]
      exact Ev.ite_pos (decide_eq_true (by omega)) (Ev.now _)
    · rw [if_neg h]
      refine Ev.ite_neg (not_dec (by omega)) ?_
      exact unpack_l0 n (take0_back ht).2 n 0 [] r (by omega) rfl (by omega)
theorem runpack_l0 (m : Nat) (hm : m ≤ top) : ∀ (d i : Nat) (out : List Nat) (l : List UInt8), i + d = m → out.length = i → l.length ≤ 9223372036854775807 →
    Ev (fun k => clinkerref02_Unpack.l0 k (m : Int) (ofL l) (nats out) (i : Int)) (unpackE (loopU d out l))
  | 0, i, out, l, hi, _, _ => by
    refine Ev.step (fun k => clinkerref02_Unpack.l0.eq_2 ..) (Ev.ite_neg (by omega) ?_)
    exact Ev.now _
  | d + 1, i, out, l, hi, ho, hl => by
    refine Ev.step (fun k => clinkerref02_Unpack.l0.eq_2 ..) (Ev.ite_pos (by omega) (Ev.bind (rtake_ofL l hl) ?_))
    simp only [loopU]
    cases ht : take0 l with
    | none => exact Ev.ite_neg (by simp [takeE]) (Ev.now _)
    | some p =>
      obtain ⟨k, r⟩ := p
      have h1 := take0_short ht
      have ih := runpack_l0 m hm d (i + 1) (out ++ [k]) r (by omega) (by simp [ho]) (by omega)
      unfold top at hm
      refine Ev.ite_pos rfl (Ev.ite_pos (by rw [nats_length]; omega) ?_)
      rw [wrap64_in (by omega) (by omega)]
      simp only [takeE]
      rw [nats_snoc]
      exact ih
theorem runpack_ofL (l : List UInt8) (hl : l.length ≤ 9223372036854775807) : Ev (fun k => clinkerref02_Unpack.f k (ofL l)) (unpackE (unpackL l)) := by
  unfold clinkerref02_Unpack.f unpackL
  refine Ev.bind (rtake_ofL l hl) ?_
  cases ht : take0 l with
  | none => exact Ev.ite_neg (by simp [takeE]) (Ev.step (fun k => clinkerref02_Unpack.j0.eq_2 ..) (Ev.ite_pos rfl (Ev.now _)))
  | some p =>
    obtain ⟨n, r⟩ := p
    have h1 := take0_short ht
    refine Ev.ite_pos rfl (Ev.step (fun k => clinkerref02_Unpack.j0.eq_2 ..) ?_)
    simp only [takeE, ofL_size]
    by_cases h : r.length < n
    · rw [if_pos h]
      exact Ev.ite_pos (decide_eq_true (by omega)) (Ev.now _)
    · rw [if_neg h]
      refine Ev.ite_neg (not_dec (by omega)) ?_
      exact runpack_l0 n (take0_back ht).2 n 0 [] r (by omega) rfl (by omega)

/-! Two lists that are the same -/
theorem same_l0 (l : List Int) (hl : l.length ≤ 9223372036854775806) : ∀ (d i : Nat), i + d = l.length → Ev (fun k => clinkerref02_Same.l0 k l l (i : Int)) true
  | 0, i, hi => Ev.step (fun k => clinkerref02_Same.l0.eq_2 ..) (Ev.ite_neg (by omega) (Ev.now _))
  | d + 1, i, hi => by
    have ih := same_l0 l hl d (i + 1) (by omega)
    refine Ev.step (fun k => clinkerref02_Same.l0.eq_2 ..) (Ev.ite_pos (by omega) (Ev.ite_pos (by omega) (Ev.ite_pos (by omega) (Ev.ite_pos rfl ?_))))
    rw [wrap64_in (by omega) (by omega)]
    exact ih
theorem same_ev (l : List Int) (hl : l.length ≤ 9223372036854775806) : Ev (fun k => clinkerref02_Same.f k l l) true :=
  Ev.ite_pos rfl (same_l0 l hl l.length 0 (by omega))

/-! What any right program answers -/
theorem awake_ev : Ev (fun k => clinkerlaw02_awake.f k) true := by
  unfold clinkerlaw02_awake.f
  have h1 := pack_nats [1, 300] (by decide) (by decide)
  have e1 : packL [1, 300] = [2, 1, 172, 2] := by
    simp only [packL, flat, List.flatMap_cons, List.flatMap_nil]
    rw [digs_small (n := 1) (by decide), digs_more (n := 300) (by decide), digs_small (n := 300 / 128) (by decide), digs_small (by decide)]
    rfl
  rw [e1] at h1
  have h2 := pack_ev [-1] (by decide)
  have e2 : putI (-1) = [] := if_neg (by omega)
  have h3 := take_ofL [172, 2, 120] (by decide)
  have e3 : take0 [172, 2, 120] = some (300, [120]) := by
    have := take0_digs 300 (by decide) [120]
    rw [digs_more (n := 300) (by decide), digs_small (n := 300 / 128) (by decide)] at this
    exact this
  rw [e3] at h3
  refine Ev.bind h1 (Ev.bind h2 (Ev.bind h3 ?_))
  simp only [packS, e2, packE, takeE]
  refine Ev.ite_pos (by trivial) (Ev.ite_pos (ofL_toList _) (Ev.ite_pos (by trivial) (Ev.ite_pos (by trivial) (Ev.ite_pos (ofL_toList _) (Ev.ite_pos (by trivial) (Ev.bind (put_ev (-1)) ?_))))))
  rw [e2, ofL_toList]
  exact Ev.now true

end Go.Proofs.Ytffcjconjabekaa.X

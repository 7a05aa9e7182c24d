/- Records as tags, in plain words: what may be a record, and its tag, by the program and by the document. -/
import Derived.Test.YtejhgjmapnmigaaTagPackA
import Derived.Test.YtejhgjmapnmigaaTagCrc
import Derived.Test.YtejhgjmapnmigaaTagRight
import Derived.Test.YtejhgjmapnmigaaPAllx9
import Derived.Test.YtejhgjmapnmigaaPAllx14
import Derived.Test.YtejhgjmapnmigaaPAllx15
import Derived.Test.YtejhgjmapnmigaaPAllx16
namespace Go.Proofs.Ytejhgjmapnmigaa.X
open Go.RowKit Go.Proofs.Ytejhgjmapnmigaa.PAll Go.Proofs.YtejhgjmapnmigaaW.PrintWords Go.Proofs.YtejhgjmapnmigaaW.PrintLast Go.Proofs.YtejhgjmapnmigaaW.PrintMore

theorem rd_nat (l : List Int) (i : Nat) : rd l (i : Int) = l.getD i 0 := rfl
/-! Which keys may be -/
theorem any_take_end (p : Int → Bool) (l : List Int) (h : ∀ i, i < l.length → p (l.getD i 0) = false) : l.any p = false := by
  rw [Bool.eq_false_iff]
  intro h2
  obtain ⟨x, hx, hp⟩ := List.any_eq_true.mp h2
  obtain ⟨i, hi, rfl⟩ := List.mem_iff_getElem.mp hx
  have := h i hi
  rw [List.getD_eq_getElem?_getD, List.getElem?_eq_getElem hi] at this
  simp only [Option.getD_some] at this
  rw [this] at hp
  cases hp
theorem noRep_good (l : List Int) (n : Nat) (h : ∀ j, 1 ≤ j → j < n → l.getD (j - 1) 0 ≠ l.getD j 0) : noRep l n = true := by
  induction n with
  | zero => rfl
  | succ n ih =>
    rw [noRep, ih (fun j h1 h2 => h j h1 (by omega)), Bool.true_and]
    by_cases h0 : n = 0
    · subst h0; rfl
    · have : (l.getD n 0 != l.getD (n - 1) 0) = true := bne_iff_ne.mpr (fun e => h n (by omega) (by omega) e.symm)
      rw [this, Bool.or_true]
theorem noRep_bad (l : List Int) {j n : Nat} (hj : 1 ≤ j) (hn : j < n) (hb : l.getD j 0 = l.getD (j - 1) 0) : noRep l n = false := by
  refine noRep_le l (show j + 1 ≤ n by omega) ?_
  rw [noRep_step l j hj]
  have : (l.getD j 0 != l.getD (j - 1) 0) = false := by rw [hb]; simp
  rw [this, Bool.and_false]
theorem keysV_odd {l : List Int} {i : Nat} (hi : i < l.length) (h : oddK (l.getD i 0) = true) : keysV l = false := by
  unfold keysV
  rw [oddK_hit l i hi h]
  simp
theorem keysV_low {l : List Int} {i : Nat} (h1 : 1 ≤ i) (hi : i < l.length) (h : l.getD i 0 ≤ l.getD (i - 1) 0) : keysV l = false := by
  unfold keysV
  by_cases he : l.getD i 0 = l.getD (i - 1) 0
  · rw [noRep_bad l h1 hi he]; simp
  · rw [srt_bad l h1 hi (by omega)]; simp
theorem rkeys_l0 (l : List Int) (hl : l.length ≤ 9223372036854775806) : ∀ (d i : Nat), i + d = l.length → (∀ j, j < i → oddK (l.getD j 0) = false) → (∀ j, 1 ≤ j → j < i → l.getD (j - 1) 0 < l.getD j 0) →
    Ev (fun k => clinkerref03_keys.l0 k l (i : Int)) (keysV l)
  | 0, i, hi, h1, h2 => by
    refine Ev.step (fun k => clinkerref03_keys.l0.eq_2 ..) (Ev.ite_neg (by omega) ?_)
    have e1 : l.any oddK = false := any_take_end oddK l (fun j hj => h1 j (by omega))
    have e2 : srt l l.length = true := srt_good l l.length (fun j hj1 hj2 => by have := h2 j hj1 (by omega); omega)
    have e3 : noRep l l.length = true := noRep_good l l.length (fun j hj1 hj2 => by have := h2 j hj1 (by omega); omega)
    unfold keysV
    rw [e1, e2, e3]
    by_cases hp : (l.length : Int) > 0
    · refine Ev.ite_pos hp ?_
      rw [decide_eq_true (show 0 < (l.length : Int) by omega)]
      simp only [Bool.true_and, Bool.not_false, Bool.and_true]
      exact Ev.now _
    · refine Ev.ite_neg hp ?_
      rw [decide_eq_false (show ¬ 0 < (l.length : Int) by omega)]
      simp only [Bool.false_and]
      exact Ev.now _
  | d + 1, i, hi, h1, h2 => by
    refine Ev.step (fun k => clinkerref03_keys.l0.eq_2 ..) (Ev.ite_pos (by omega) (Ev.ite_pos (by omega) ?_))
    rw [rd_nat]
    by_cases c1 : l.getD i 0 < 0
    · refine Ev.ite_pos c1 ?_
      rw [keysV_odd (by omega) (i := i) (by unfold oddK; rw [decide_eq_true c1]; rfl)]
      exact Ev.now _
    refine Ev.ite_neg c1 ?_
    by_cases c2 : l.getD i 0 ≥ 64
    · refine Ev.ite_pos c2 ?_
      rw [keysV_odd (by omega) (i := i) (by unfold oddK; rw [decide_eq_true (show 64 ≤ l.getD i 0 from c2), Bool.or_true])]
      exact Ev.now _
    refine Ev.ite_neg c2 ?_
    have hodd : oddK (l.getD i 0) = false := by unfold oddK; rw [decide_eq_false c1, decide_eq_false (show ¬ 64 ≤ l.getD i 0 from c2)]; rfl
    have h1' : ∀ j, j < i + 1 → oddK (l.getD j 0) = false := fun j hj => by
      by_cases h : j = i
      · rw [h]; exact hodd
      · exact h1 j (by omega)
    have e4 : wrap64 ((i : Int) + 1) = ((i + 1 : Nat) : Int) := by rw [wrap64_in (by omega) (by omega)]; omega
    rw [e4]
    by_cases c3 : (i : Int) > 0
    · refine Ev.ite_pos c3 ?_
      have e5 : wrap64 ((i : Int) - 1) = ((i - 1 : Nat) : Int) := by rw [wrap64_in (by omega) (by omega)]; omega
      rw [e5, rd_nat]
      refine Ev.ite_pos (by omega) (Ev.ite_pos (by omega) ?_)
      by_cases c4 : l.getD i 0 ≤ l.getD (i - 1) 0
      · refine Ev.ite_pos c4 ?_
        rw [keysV_low (by omega) (by omega) c4]
        exact Ev.now _
      · refine Ev.ite_neg c4 (rkeys_l0 l hl d (i + 1) (by omega) h1' (fun j hj1 hj2 => ?_))
        by_cases h : j = i
        · rw [h]; omega
        · exact h2 j hj1 (by omega)
    · refine Ev.ite_neg c3 (rkeys_l0 l hl d (i + 1) (by omega) h1' (fun j hj1 hj2 => by omega))
theorem rkeys_ev (l : List Int) (hl : l.length ≤ 9223372036854775806) : Ev (fun k => clinkerref03_keys.f k l) (keysV l) :=
  rkeys_l0 l hl l.length 0 (by omega) (fun j hj => by omega) (fun j h1 h2 => by omega)

/-! Which records may be -/
def rightEnd (a : Int) (l m : List Int) : Bool := if a = 2 then ((m.length : Int) == (l.length : Int)) else false
theorem rright_l0 (a b : Int) (l m : List Int) (hm : m.length ≤ 9223372036854775806) : ∀ (d i : Nat), i + d = m.length → (∀ j, j < i → oddV (m.getD j 0) = false) →
    Ev (fun k => clinkerref03_Right.l0 k (i : Int) a b l m) (if m.any oddV = true then false else rightEnd a l m)
  | 0, i, hi, h1 => by
    refine Ev.step (fun k => clinkerref03_Right.l0.eq_2 ..) (Ev.ite_neg (by omega) ?_)
    rw [any_take_end oddV m (fun j hj => h1 j (by omega))]
    show Ev _ (rightEnd a l m)
    unfold rightEnd
    by_cases h2 : a = 2
    · refine Ev.ite_pos h2 ?_
      rw [if_pos h2]
      exact Ev.now _
    · refine Ev.ite_neg h2 ?_
      rw [if_neg h2]
      exact Ev.now _
  | d + 1, i, hi, h1 => by
    refine Ev.step (fun k => clinkerref03_Right.l0.eq_2 ..) (Ev.ite_pos (by omega) (Ev.ite_pos (by omega) ?_))
    rw [rd_nat]
    by_cases c1 : m.getD i 0 < -1
    · refine Ev.ite_pos c1 ?_
      rw [oddV_hit m i (by omega) (by unfold oddV; rw [decide_eq_true c1]; rfl), if_pos rfl]
      exact Ev.now _
    refine Ev.ite_neg c1 ?_
    by_cases c2 : m.getD i 0 ≥ 512
    · refine Ev.ite_pos c2 ?_
      rw [oddV_hit m i (by omega) (by unfold oddV; rw [decide_eq_true (show 512 ≤ m.getD i 0 from c2), Bool.or_true]), if_pos rfl]
      exact Ev.now _
    refine Ev.ite_neg c2 ?_
    have e4 : wrap64 ((i : Int) + 1) = ((i + 1 : Nat) : Int) := by rw [wrap64_in (by omega) (by omega)]; omega
    rw [e4]
    refine rright_l0 a b l m hm d (i + 1) (by omega) (fun j hj => ?_)
    by_cases h : j = i
    · rw [h]; unfold oddV; rw [decide_eq_false c1, decide_eq_false (show ¬ 512 ≤ m.getD i 0 from c2)]; rfl
    · exact h1 j (by omega)
theorem rright_ev (a b : Int) (l m : List Int) (hl : l.length ≤ 9223372036854775806) (hm : m.length ≤ 9223372036854775806) : Ev (fun k => clinkerref03_Right.f k a b l m) (rightV a b l m) := by
  unfold clinkerref03_Right.f rightV
  by_cases c1 : b < 0
  · rw [if_pos c1]
    exact Ev.ite_pos c1 (Ev.step (fun k => clinkerref03_Right.j0.eq_2 ..) (Ev.ite_pos rfl (Ev.now _)))
  rw [if_neg c1]
  refine Ev.ite_neg c1 ?_
  by_cases c2 : b > 1099511627776
  · rw [if_pos (show 1099511627776 < b from c2)]
    exact Ev.ite_pos c2 (Ev.step (fun k => clinkerref03_Right.j0.eq_2 ..) (Ev.ite_pos rfl (Ev.now _)))
  rw [if_neg (show ¬ 1099511627776 < b from c2)]
  refine Ev.ite_neg c2 (Ev.bind (rkeys_ev l hl) ?_)
  refine Ev.step (fun k => clinkerref03_Right.j0.eq_2 ..) ?_
  cases hk : keysV l with
  | false =>
    rw [if_pos rfl]
    exact Ev.ite_pos rfl (Ev.now _)
  | true =>
    rw [if_neg (by simp)]
    refine Ev.ite_neg (by simp) ?_
    by_cases h1 : a = 1
    · refine Ev.ite_pos h1 ?_
      have : (if m.any oddV = true then false else if a = 1 then ((m.length : Int) == 0) else if a = 2 then ((m.length : Int) == (l.length : Int)) else false) = ((m.length : Int) == 0) := by
        rw [if_pos h1]
        by_cases h2 : m.any oddV = true
        · rw [if_pos h2]
          have h3 : m ≠ [] := by intro e; rw [e] at h2; simp at h2
          have h4 : 0 < m.length := List.length_pos_iff.mpr h3
          exact (beq_eq_false_iff_ne.mpr (by omega)).symm
        · rw [if_neg h2]
      rw [this]
      exact Ev.now _
    · refine Ev.ite_neg h1 ?_
      rw [if_neg h1]
      exact rright_l0 a b l m hm m.length 0 (by omega) (fun j hj => by omega)
theorem right_ev (a b : Int) (l m : List Int) (hl : l.length ≤ 17592186044415) : tag_Right.f a b l m = some (rightV a b l m) := by
  unfold tag_Right.f
  rw [if_pos hl]

/-! The tag -/
theorem right_facts {a b : Int} {l m : List Int} (h : rightV a b l m = true) : (a = 1 ∨ a = 2) ∧ 0 ≤ b ∧ b ≤ 1099511627776 ∧ l.length ≤ 8 ∧ m.length ≤ 8 ∧ (∀ x ∈ l, 0 ≤ x ∧ x < 64) ∧ (∀ x ∈ m, -1 ≤ x ∧ x < 512) := by
  unfold rightV at h
  by_cases c1 : b < 0
  · rw [if_pos c1] at h; cases h
  rw [if_neg c1] at h
  by_cases c2 : 1099511627776 < b
  · rw [if_pos c2] at h; cases h
  rw [if_neg c2] at h
  cases hk : keysV l with
  | false => rw [hk, if_pos rfl] at h; cases h
  | true =>
    rw [hk, if_neg (by simp)] at h
    by_cases hv : m.any oddV = true
    · rw [if_pos hv] at h; cases h
    rw [if_neg hv] at h
    have hv : m.any oddV = false := by simpa using hv
    unfold keysV at hk
    rw [Bool.and_eq_true, Bool.and_eq_true, Bool.and_eq_true, decide_eq_true_iff, decide_eq_true_iff] at hk
    obtain ⟨⟨⟨k1, k2⟩, k3⟩, _⟩ := hk
    have k3 : l.any oddK = false := by simpa using k3
    have hl : ∀ x ∈ l, 0 ≤ x ∧ x < 64 := fun x hx => by
      have := List.any_eq_false.mp k3 x hx
      unfold oddK at this
      rw [Bool.or_eq_true, decide_eq_true_iff, decide_eq_true_iff] at this
      omega
    have hm : ∀ x ∈ m, -1 ≤ x ∧ x < 512 := fun x hx => by
      have := List.any_eq_false.mp hv x hx
      unfold oddV at this
      rw [Bool.or_eq_true, decide_eq_true_iff, decide_eq_true_iff] at this
      omega
    by_cases h1 : a = 1
    · rw [if_pos h1] at h
      have := beq_iff_eq.mp h
      exact ⟨.inl h1, by omega, by omega, by omega, by omega, hl, hm⟩
    · rw [if_neg h1] at h
      by_cases h2 : a = 2
      · rw [if_pos h2] at h
        have := beq_iff_eq.mp h
        exact ⟨.inr h2, by omega, by omega, by omega, by omega, hl, hm⟩
      · rw [if_neg h2] at h; cases h
/-- Numbers from nought on, as such. -/
def ns (l : List Int) : List Nat := l.map Int.toNat
theorem ns_back {l : List Int} (h : ∀ x ∈ l, 0 ≤ x) : nats (ns l) = l := by
  induction l with
  | nil => rfl
  | cons x l ih =>
    have h1 := ih (fun y hy => h y (by simp [hy]))
    have h2 := h x (by simp)
    unfold nats ns at h1 ⊢
    simp only [List.map_cons]
    rw [h1, show ((x.toNat : Nat) : Int) = x by omega]
theorem ns_length (l : List Int) : (ns l).length = l.length := by unfold ns; rw [List.length_map]
theorem ns_top {l : List Int} (h : ∀ x ∈ l, x ≤ 1099511627776) : ∀ x ∈ ns l, x ≤ top := by
  intro x hx
  obtain ⟨y, hy, rfl⟩ := List.mem_map.mp hx
  have := h y hy
  unfold top
  omega
theorem packL_len (l : List Nat) (h : ∀ x ∈ l, x ≤ top) (hl : l.length ≤ top) : (packL l).length ≤ 6 + 6 * l.length := by
  have key : ∀ n, n ≤ top → (digs n).length ≤ 6 := fun n hn => by
    have := putI_len (n : Int)
    rwa [putI_nat n hn] at this
  have h1 : (flat l).length ≤ 6 * l.length := by
    clear hl
    induction l with
    | nil => simp [flat]
    | cons x l ih =>
      rw [flat_cons, List.length_append, List.length_cons]
      have := ih (fun y hy => h y (by simp [hy]))
      have := key x (h x (by simp))
      omega
  unfold packL
  rw [List.length_append]
  have := key _ hl
  omega
theorem append_ofL (l : List UInt8) (s : ByteArray) : ofL l ++ s = ofL (l ++ s.data.toList) := by
  conv => lhs; rw [← ofL_of s]
  rw [ofL_append]
/-- A record's bytes, without the sum. -/
def bodyL (a b : Int) (l m : List Int) : List UInt8 := packL (ns [a, b]) ++ packL (ns l) ++ packL (ns (addAll 1 m))
/-- A record's tag. -/
def tagL (a b : Int) (l m : List Int) (d : List UInt8) : List UInt8 := bodyL a b l m ++ four (sumB (bodyL a b l m ++ d)).toNat
def encV (a b : Int) (l m : List Int) (d : ByteArray) : ByteArray × Int :=
  if rightV a b l m = true then (if (d.size : Int) > 16 then ((⟨#[]⟩ : ByteArray), 1) else (ofL (tagL a b l m d.data.toList), 0)) else ((⟨#[]⟩ : ByteArray), 1)
theorem addAll_in {m : List Int} (h : ∀ x ∈ m, -1 ≤ x ∧ x < 512) : ∀ x ∈ addAll 1 m, 0 ≤ x ∧ x ≤ 512 := by
  intro x hx
  obtain ⟨y, hy, rfl⟩ := List.mem_map.mp hx
  have := h y hy
  rw [wrap64_in (by omega) (by omega)]
  omega
theorem addAll_length (d : Int) (m : List Int) : (addAll d m).length = m.length := by unfold addAll; rw [List.length_map]
theorem body_len {a b : Int} {l m : List Int} (h : rightV a b l m = true) : (bodyL a b l m).length ≤ 200 := by
  obtain ⟨h1, h2, h3, h4, h5, h6, h7⟩ := right_facts h
  have g7 := addAll_in h7
  have e1 := packL_len (ns [a, b]) (ns_top (by intro x hx; simp at hx; omega)) (by unfold top; rw [ns_length]; simp)
  have e2 := packL_len (ns l) (ns_top (fun x hx => by have := h6 x hx; omega)) (by unfold top; rw [ns_length]; omega)
  have e3 := packL_len (ns (addAll 1 m)) (ns_top (fun x hx => by have := g7 x hx; omega)) (by unfold top; rw [ns_length, addAll_length]; omega)
  rw [ns_length] at e1 e2 e3
  rw [addAll_length] at e3
  unfold bodyL
  rw [List.length_append, List.length_append]
  simp at e1
  omega
theorem four_len (n : Nat) : (four n).length = 4 := rfl
theorem bytes_ev (n : Nat) (hn : n < 4294967296) : crc_Bytes.f (n : Int) = some (ofL (four n)) := by
  unfold crc_Bytes.f
  rw [if_pos (by omega)]
  congr 1
  refine bytes_ext ?_
  rw [strOfNums_toList]
  unfold four
  simp only [List.map_cons, List.map_nil]
  rw [show ((n : Int) % 256).toNat = n % 256 by omega, show ((n : Int) / 256 % 256).toNat = n / 256 % 256 by omega, show ((n : Int) / 65536 % 256).toNat = n / 65536 % 256 by omega, show ((n : Int) / 16777216).toNat = n / 16777216 % 256 by omega]
  rfl
theorem rbytes_ev (n : Nat) (hn : n < 4294967296) : clinkerref01_Bytes.f (n : Int) = some (ofL (four n)) := by
  rw [← bytes_ev n hn]
  unfold clinkerref01_Bytes.f crc_Bytes.f
  rw [if_neg (by omega), if_neg (by omega), if_pos (by omega)]
  rw [Int.tdiv_eq_ediv_of_nonneg (by omega), Int.tdiv_eq_ediv_of_nonneg (by omega), Int.tdiv_eq_ediv_of_nonneg (by omega)]
  rw [wrap64_in (by omega) (by omega), wrap64_in (by omega) (by omega), wrap64_in (by omega) (by omega)]
  rw [Int.tmod_eq_emod_of_nonneg (by omega), Int.tmod_eq_emod_of_nonneg (by omega), Int.tmod_eq_emod_of_nonneg (by omega)]
  congr 2
  congr 1
  · omega
  congr 1
  · omega
  congr 1
  · omega
  congr 1
  omega
theorem pack_ns {l : List Int} (h : ∀ x ∈ l, 0 ≤ x ∧ x ≤ 1099511627776) (hl : l.length ≤ 100) : Ev (fun k => pack_Pack.f k l) (ofL (packL (ns l)), 0) := by
  have := pack_nats (ns l) (ns_top (fun x hx => (h x hx).2)) (by rw [ns_length]; unfold top; omega)
  rw [ns_back (fun x hx => (h x hx).1)] at this
  exact this
theorem rpack_ns {l : List Int} (h : ∀ x ∈ l, 0 ≤ x ∧ x ≤ 1099511627776) (hl : l.length ≤ 100) : Ev (fun k => clinkerref02_Pack.f k l) (ofL (packL (ns l)), 0) := by
  have h1 := rpack_ev (nats (ns l)) (by rw [nats_length, ns_length]; omega)
  rw [nats_length, putI_nat _ (show (ns l).length ≤ top by rw [ns_length]; unfold top; omega), packS_nats (ns l) _ (ns_top (fun x hx => (h x hx).2)), ns_back (fun x hx => (h x hx).1)] at h1
  exact h1
theorem sumB_lt (l : List UInt8) : (sumB l).toNat < 4294967296 := (sumB l).isLt
theorem nil_ofL (l : List UInt8) : (⟨#[]⟩ : ByteArray) ++ ofL l = ofL l := ofL_append [] l
theorem enc_ev (a b : Int) (l m : List Int) (d : ByteArray) (hl : l.length ≤ 17592186044415) (hd : d.size ≤ 140737488351232) : Ev (fun k => tag_Encode.f k a b l m d) (encV a b l m d) := by
  unfold tag_Encode.f encV
  rw [right_ev a b l m hl]
  refine Ev.pure_ ?_
  cases hr : rightV a b l m with
  | false => exact Ev.ite_neg (by simp) (Ev.now _)
  | true =>
    refine Ev.ite_pos rfl ?_
    show Ev _ (if (d.size : Int) > 16 then ((⟨#[]⟩ : ByteArray), 1) else (ofL (tagL a b l m d.data.toList), 0))
    by_cases hs : (d.size : Int) > 16
    · rw [if_pos hs]
      exact Ev.ite_pos hs (Ev.now _)
    rw [if_neg hs]
    refine Ev.ite_neg hs ?_
    obtain ⟨h1, h2, h3, h4, h5, h6, h7⟩ := right_facts hr
    have g7 := addAll_in h7
    have hb := body_len hr
    have hmv : tag_moved.f m 1 = some (addAll 1 m) := by unfold tag_moved.f; rw [if_pos (by omega)]
    rw [hmv]
    refine Ev.pure_ ?_
    unfold tag_Encode.e0 tag_Encode.e1 tag_Encode.e2 tag_Encode.e3
    refine Ev.bind (pack_ns (l := [a, b]) (by intro x hx; simp at hx; omega) (by simp)) (Ev.ite_pos rfl ?_)
    have z1 : ((⟨#[]⟩ : ByteArray)).size = 0 := rfl
    unfold bodyL at hb
    rw [List.length_append, List.length_append] at hb
    dsimp only
    refine Ev.ite_pos (by rw [ofL_size, z1]; omega) ?_
    refine Ev.bind (pack_ns (l := l) (fun x hx => by have := h6 x hx; omega) (by omega)) (Ev.ite_pos rfl ?_)
    dsimp only
    rw [nil_ofL]
    refine Ev.ite_pos (by rw [ofL_size, ofL_size]; omega) ?_
    refine Ev.bind (pack_ns (l := addAll 1 m) (fun x hx => by have := g7 x hx; omega) (by rw [addAll_length]; omega)) (Ev.ite_pos rfl ?_)
    dsimp only
    rw [ofL_append]
    refine Ev.ite_pos (by rw [ofL_size, ofL_size, List.length_append]; omega) ?_
    rw [ofL_append]
    refine Ev.ite_pos (by rw [ofL_size, List.length_append, List.length_append]; omega) ?_
    rw [append_ofL]
    have hsum := sum_ev (ofL (packL (ns [a, b]) ++ packL (ns l) ++ packL (ns (addAll 1 m)) ++ d.data.toList)) (by rw [ofL_size, List.length_append, List.length_append, List.length_append, data_length]; omega)
    rw [ofL_list] at hsum
    refine Ev.bind hsum ?_
    rw [bytes_ev _ (sumB_lt _)]
    refine Ev.pure_ ?_
    refine Ev.ite_pos (by rw [ofL_size, ofL_size, four_len, List.length_append, List.length_append]; omega) ?_
    rw [ofL_append]
    exact Ev.now _
theorem rbody_l0 (h3 : List Int) (a b : Int) (l m : List Int) (r : ByteArray) (hm : m.length ≤ 100) (hend : Ev (fun k => (clinkerref02_Pack.f k h3).bind fun bt194 => ((clinkerref02_Pack.f k l).bind fun bt196 => ((clinkerref02_Pack.f k (addAll 1 m)).bind fun bt198 => (if bt194.1.size + bt196.1.size ≤ 9223372036854775807 then (if (bt194.1 ++ bt196.1).size + bt198.1.size ≤ 9223372036854775807 then (some ((bt194.1 ++ bt196.1) ++ bt198.1)) else (none)) else (none))))) r) :
    ∀ (d i : Nat), i + d = m.length → Ev (fun k => clinkerref03_body.l0 k h3 (addAll 1 (m.take i)) (i : Int) a b l m) r
  | 0, i, hi => by
    refine Ev.step (fun k => clinkerref03_body.l0.eq_2 ..) (Ev.ite_neg (by omega) ?_)
    rw [List.take_of_length_le (by omega)]
    exact hend
  | d + 1, i, hi => by
    refine Ev.step (fun k => clinkerref03_body.l0.eq_2 ..) (Ev.ite_pos (by omega) (Ev.ite_pos (by omega) (Ev.ite_pos (by rw [addAll_length, List.length_take]; omega) ?_)))
    rw [rd_nat, show wrap64 ((i : Int) + 1) = ((i + 1 : Nat) : Int) by rw [wrap64_in (by omega) (by omega)]; omega]
    have e : addAll 1 (m.take i) ++ [wrap64 (m.getD i 0 + 1)] = addAll 1 (m.take (i + 1)) := by
      unfold addAll
      rw [List.take_succ_eq_append_getElem (show i < m.length by omega), List.map_append, List.getD_eq_getElem?_getD, List.getElem?_eq_getElem (show i < m.length by omega)]
      rfl
    rw [e]
    exact rbody_l0 h3 a b l m r hm hend d (i + 1) (by omega)
theorem renc_ev (a b : Int) (l m : List Int) (d : ByteArray) (hl : l.length ≤ 9223372036854775806) (hm : m.length ≤ 9223372036854775806) (hd : d.size ≤ 140737488351232) : Ev (fun k => clinkerref03_Encode.f k a b l m d) (encV a b l m d) := by
  unfold clinkerref03_Encode.f encV
  refine Ev.bind (rright_ev a b l m hl hm) ?_
  cases hr : rightV a b l m with
  | false => exact Ev.ite_neg (by simp) (Ev.step (fun k => clinkerref03_Encode.j0.eq_2 ..) (Ev.ite_pos rfl (Ev.now _)))
  | true =>
    refine Ev.ite_pos rfl (Ev.step (fun k => clinkerref03_Encode.j0.eq_2 ..) ?_)
    show Ev _ (if (d.size : Int) > 16 then ((⟨#[]⟩ : ByteArray), 1) else (ofL (tagL a b l m d.data.toList), 0))
    by_cases hs : (d.size : Int) > 16
    · rw [if_pos hs]
      exact Ev.ite_pos (decide_eq_true hs) (Ev.now _)
    rw [if_neg hs]
    refine Ev.ite_neg (by rw [decide_eq_false hs]; simp) ?_
    obtain ⟨h1, h2, h3, h4, h5, h6, h7⟩ := right_facts hr
    have g7 := addAll_in h7
    have hb := body_len hr
    have hbody : Ev (fun k => clinkerref03_body.f k a b l m) (ofL (bodyL a b l m)) := by
      refine rbody_l0 [a, b] a b l m _ (by omega) ?_ m.length 0 (by omega)
      unfold bodyL at hb ⊢
      rw [List.length_append, List.length_append] at hb
      refine Ev.bind (rpack_ns (l := [a, b]) (by intro x hx; simp at hx; omega) (by simp)) ?_
      refine Ev.bind (rpack_ns (l := l) (fun x hx => by have := h6 x hx; omega) (by omega)) ?_
      refine Ev.bind (rpack_ns (l := addAll 1 m) (fun x hx => by have := g7 x hx; omega) (by rw [addAll_length]; omega)) ?_
      dsimp only
      refine Ev.ite_pos (by rw [ofL_size, ofL_size]; omega) ?_
      rw [ofL_append]
      refine Ev.ite_pos (by rw [ofL_size, ofL_size, List.length_append]; omega) ?_
      rw [ofL_append]
      exact Ev.now _
    refine Ev.bind hbody ?_
    refine Ev.ite_pos (by rw [ofL_size]; omega) ?_
    rw [append_ofL]
    have hsum := rsum_ev (ofL (bodyL a b l m ++ d.data.toList)) (by rw [ofL_size, List.length_append, data_length]; omega)
    rw [ofL_list] at hsum
    refine Ev.bind hsum ?_
    rw [rbytes_ev _ (sumB_lt _)]
    refine Ev.pure_ ?_
    refine Ev.ite_pos (by rw [ofL_size, ofL_size, four_len]; omega) ?_
    rw [ofL_append]
    exact Ev.now _
/-- A record's tag is the document's. -/
theorem same_rec (a b : Int) (l m : List Int) (d : ByteArray) (hl : l.length ≤ 17592186044415) (hm : m.length ≤ 9223372036854775806) (hd : d.size ≤ 140737488351232) : Ev (fun k => clinkerlaw03_same.f k a b l m d) true := by
  unfold clinkerlaw03_same.f
  refine Ev.bind (enc_ev a b l m d hl hd) (Ev.bind (renc_ev a b l m d (by omega) hm hd) ?_)
  rw [right_ev a b l m hl]
  refine Ev.pure_ (Ev.bind (rright_ev a b l m (by omega) hm) ?_)
  refine Ev.ite_pos (by simp) (Ev.ite_pos rfl ?_)
  simp only [beq_self_eq_true]
  exact Ev.now _
end Go.Proofs.Ytejhgjmapnmigaa.X

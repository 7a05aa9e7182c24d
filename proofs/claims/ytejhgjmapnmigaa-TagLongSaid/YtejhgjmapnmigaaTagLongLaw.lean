/- The statement TagLong over numbers and lists alone. -/
import Derived.Test.YtejhgjmapnmigaaTagMadeP
import Derived.Test.YtejhgjmapnmigaaPAllx23
namespace Go.Proofs.Ytejhgjmapnmigaa.X
open Go.RowKit Go.Proofs.Ytejhgjmapnmigaa.PAll Go.Proofs.YtejhgjmapnmigaaW.PrintWords Go.Proofs.YtejhgjmapnmigaaW.PrintLast Go.Proofs.YtejhgjmapnmigaaW.PrintMore

theorem digs_le : ∀ (k n : Nat), 1 ≤ k → n < 128 ^ k → (digs n).length ≤ k
  | 0, _, h, _ => by omega
  | k + 1, n, _, hn => by
    by_cases h : n < 128
    · rw [digs_small h]; simp
    · rw [digs_more h, List.length_cons]
      have hk : 1 ≤ k := by
        rcases Nat.eq_zero_or_pos k with h0 | h0
        · subst h0; simp at hn; omega
        · exact h0
      have := digs_le k (n / 128) hk (by rw [Nat.div_lt_iff_lt_mul (by omega)]; rw [Nat.pow_succ] at hn; exact hn)
      omega
theorem flat_le (k : Nat) (hk : 1 ≤ k) : ∀ (l : List Nat), (∀ x ∈ l, x < 128 ^ k) → (flat l).length ≤ k * l.length
  | [], _ => by simp [flat]
  | x :: l, h => by
    rw [flat_cons, List.length_append, List.length_cons]
    have h1 := flat_le k hk l (fun y hy => h y (by simp [hy]))
    have h2 := digs_le k x hk (h x (by simp))
    rw [Nat.mul_add]
    omega
theorem ns_lt {l : List Int} {c : Nat} (h : ∀ x ∈ l, x < (c : Int)) (hc : 0 < c) : ∀ x ∈ ns l, x < c := by
  intro x hx
  obtain ⟨y, hy, rfl⟩ := List.mem_map.mp hx
  have := h y hy
  omega
theorem packL_le (k : Nat) (hk : 1 ≤ k) (l : List Int) (hl : l.length ≤ 100) (h : ∀ x ∈ l, x < ((128 ^ k : Nat) : Int)) : (packL (ns l)).length ≤ 1 + k * l.length ∧ 1 + l.length ≤ (packL (ns l)).length := by
  have h1 := flat_le k hk (ns l) (ns_lt h (Nat.pow_pos (by omega)))
  have h2 := flat_length (ns l)
  rw [ns_length] at h1 h2
  unfold packL
  rw [List.length_append, ns_length, digs_small (by omega)]
  simp only [List.length_singleton]
  omega
theorem tag_len (l : List Int) (d : List UInt8) : 10 ≤ (tagL (madeV l).1 (madeV l).2.1 (madeV l).2.2.1 (madeV l).2.2.2 d).length ∧ (tagL (madeV l).1 (madeV l).2.1 (madeV l).2.2.1 (madeV l).2.2.2 d).length ≤ 40 := by
  obtain ⟨f0, f1, f2, f3, f4, f5⟩ := made_facts l
  obtain ⟨h1, h2, h3, h4, h5, h6, h7⟩ := right_facts f0
  have g7 := addAll_in h7
  have e1 : (packL (ns [(madeV l).1, (madeV l).2.1])).length ≤ 6 ∧ 3 ≤ (packL (ns [(madeV l).1, (madeV l).2.1])).length := by
    unfold packL ns flat
    simp only [List.map_cons, List.map_nil, List.length_cons, List.length_nil, List.flatMap_cons, List.flatMap_nil, List.append_nil, List.length_append]
    rw [digs_small (show 0 + 1 + 1 < 128 by omega), digs_small (show (madeV l).1.toNat < 128 by omega)]
    have a1 := digs_le 4 (madeV l).2.1.toNat (by omega) (by simp; omega)
    have a2 := digs_pos (madeV l).2.1.toNat
    simp only [List.length_singleton]
    omega
  have e2 := packL_le 1 (by omega) (madeV l).2.2.1 (by omega) (fun x hx => by have := h6 x hx; simp; omega)
  have e3 := packL_le 2 (by omega) (addAll 1 (madeV l).2.2.2) (by rw [addAll_length]; omega) (fun x hx => by have := g7 x hx; simp; omega)
  rw [addAll_length] at e3
  unfold tagL bodyL
  rw [List.length_append, List.length_append, List.length_append, four_len]
  omega
theorem enc_made (l : List Int) (d : ByteArray) (hd : d.size ≤ 16) : encV (madeV l).1 (madeV l).2.1 (madeV l).2.2.1 (madeV l).2.2.2 d = (ofL (tagL (madeV l).1 (madeV l).2.1 (madeV l).2.2.1 (madeV l).2.2.2 d.data.toList), 0) := by
  unfold encV
  rw [(made_facts l).1, if_pos rfl, if_neg (by omega)]
theorem tagLong_end (l : List Int) (d : ByteArray) (hd : d.size ≤ 16) : Ev (fun k => (tag_Encode.f k (madeV l).1 (madeV l).2.1 (madeV l).2.2.1 (madeV l).2.2.2 d).bind fun bt => (if bt.2 = 0 then (if (bt.1.size : Int) ≥ 10 then (some (decide ((bt.1.size : Int) ≤ 40))) else (some false)) else (some false))) true := by
  obtain ⟨f0, f1, f2, f3, f4, f5⟩ := made_facts l
  refine Ev.bind (enc_ev _ _ _ _ d (by omega) (by omega)) ?_
  rw [enc_made l d hd]
  have h := tag_len l d.data.toList
  refine Ev.ite_pos rfl (Ev.ite_pos (by rw [ofL_size]; omega) ?_)
  rw [ofL_size, decide_eq_true (by omega)]
  exact Ev.now true
theorem law_TagLong : clinkerlaw03_TagLong.Pure := by
  intro l0 a1 _ _ hw hd
  refine Ev.rounds (g := fun k => clinkerlaw03_TagLong.f k l0 a1) ?_
  unfold clinkerlaw03_TagLong.f
  rw [awake_f, made_f l0 hw]
  refine Ev.pure_ (Ev.ite_pos rfl ?_)
  by_cases h : (a1.size : Int) > 16
  · refine Ev.ite_pos h (Ev.ite_pos (by omega) (Ev.ite_pos (by omega) (Ev.pure_ (tagLong_end l0 _ ?_))))
    rw [ByteArray.size_extract]
    omega
  · exact Ev.ite_neg h (Ev.pure_ (tagLong_end l0 _ (by omega)))
end Go.Proofs.Ytejhgjmapnmigaa.X

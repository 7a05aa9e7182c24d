/- Packed numbers, in plain words: what the document unpacks (chapter 2, over this seat). -/
import Derived.Test.YtejhgjmapnmigaaTagAll
import Derived.Test.YtejhgjmapnmigaaPAllx19
import Derived.Test.YtejhgjmapnmigaaPAllx18
namespace Go.Proofs.Ytejhgjmapnmigaa.X
open Go.RowKit Go.Proofs.Ytejhgjmapnmigaa.PAll Go.Proofs.YtejhgjmapnmigaaW.PrintWords Go.Proofs.YtejhgjmapnmigaaW.PrintLast Go.Proofs.YtejhgjmapnmigaaW.PrintMore

theorem unit_step (i : Nat) (hi : i < 6) : wrap64 (((128 ^ i : Nat) : Int) * 128) = ((128 ^ (i + 1) : Nat) : Int) := by
  have : i = 0 ∨ i = 1 ∨ i = 2 ∨ i = 3 ∨ i = 4 ∨ i = 5 := by omega
  rcases this with rfl | rfl | rfl | rfl | rfl | rfl <;> (unfold wrap64; omega)
theorem sum_step (n c i : Nat) (hi : i < 6) (hn : n < 128 ^ i) (hc : c < 128) : wrap64 ((n : Int) + wrap64 ((c : Int) * ((128 ^ i : Nat) : Int))) = ((n + c * 128 ^ i : Nat) : Int) := by
  have : i = 0 ∨ i = 1 ∨ i = 2 ∨ i = 3 ∨ i = 4 ∨ i = 5 := by omega
  rcases this with rfl | rfl | rfl | rfl | rfl | rfl <;> (unfold wrap64; omega)
theorem rtake_l0 (s : ByteArray) (hs : s.size ≤ 9223372036854775807) : ∀ (d i n : Nat), i + d = min s.size 6 → n < 128 ^ i →
    Ev (fun k => clinkerref02_Take.l0 k s (n : Int) ((128 ^ i : Nat) : Int) (i : Int)) (takeE (takeL i n (s.data.toList.drop i)))
  | 0, i, n, hi, hn => by
    clear hn
    rcases Nat.lt_or_ge i s.size with h | h
    · obtain ⟨x, e1, _⟩ := drop_bt s i h
      rw [e1]
      simp only [takeL]
      rw [if_pos (by omega)]
      refine Ev.step (fun k => clinkerref02_Take.l0.eq_2 ..) (Ev.ite_pos (by omega) (Ev.step (fun k => clinkerref02_Take.j1.eq_2 ..) (Ev.ite_neg ?_ (Ev.now _))))
      rw [decide_eq_true_iff]
      omega
    · rw [List.drop_eq_nil_of_le (by rw [data_length]; omega)]
      exact Ev.step (fun k => clinkerref02_Take.l0.eq_2 ..) (Ev.ite_neg (by omega) (Ev.step (fun k => clinkerref02_Take.j1.eq_2 ..) (Ev.ite_neg (by simp) (Ev.now _))))
  | d + 1, i, n, hi, hn => by
    have HN := Aside0.mk hn
    clear hn
    obtain ⟨x, e1, e2⟩ := drop_bt s i (by omega)
    have hx := x.toNat_lt
    rw [e1]
    simp only [takeL]
    rw [if_neg (by omega)]
    have hm : Int.tmod (x.toNat : Int) 128 = ((x.toNat % 128 : Nat) : Int) := by rw [Int.tmod_eq_emod_of_nonneg (by omega)]; omega
    have hw : wrap64 ((i : Int) + 1) = ((i + 1 : Nat) : Int) := by rw [wrap64_in (by omega) (by omega)]; omega
    refine Ev.step (fun k => clinkerref02_Take.l0.eq_2 ..) (Ev.ite_pos (by omega) (Ev.step (fun k => clinkerref02_Take.j1.eq_2 ..) (Ev.ite_pos (decide_eq_true (by omega)) (Ev.ite_pos (by omega) (Ev.ite_pos (by omega) ?_)))))
    rw [e2, hm, sum_step n (x.toNat % 128) i (by omega) HN.out (Nat.mod_lt _ (by decide)), hw, Int.toNat_natCast, extract_from, unit_step i (by omega)]
    have hn2 := pow_step HN.out (Nat.mod_lt x.toNat (show 0 < 128 by decide))
    clear HN
    obtain ⟨v, hv⟩ : ∃ v, n + x.toNat % 128 * 128 ^ i = v := ⟨_, rfl⟩
    rw [hv] at hn2 ⊢
    clear hv
    by_cases hc : x.toNat < 128
    · refine Ev.ite_pos (by omega) ?_
      rw [if_pos hc]
      unfold top
      by_cases hb : (v : Int) > 1099511627776
      · refine Ev.ite_pos hb ?_
        rw [if_neg (by omega)]
        exact Ev.now _
      · refine Ev.ite_neg hb ?_
        by_cases h0 : i = 0
        · refine Ev.ite_neg (by omega) (Ev.ite_pos (by omega) (Ev.ite_pos (by omega) ?_))
          rw [if_pos (by omega)]
          exact Ev.now _
        · refine Ev.ite_pos (by omega) ?_
          by_cases hz : x.toNat = 0
          · refine Ev.ite_pos (by omega) ?_
            rw [if_neg (by omega)]
            exact Ev.now _
          · refine Ev.ite_neg (by omega) (Ev.ite_pos (by omega) (Ev.ite_pos (by omega) ?_))
            rw [if_pos (by omega)]
            exact Ev.now _
    · refine Ev.ite_neg (by omega) ?_
      rw [if_neg hc]
      exact rtake_l0 s hs d (i + 1) _ (by omega) hn2
theorem rtake_ev (s : ByteArray) (hs : s.size ≤ 9223372036854775807) : Ev (fun k => clinkerref02_Take.f k s) (takeE (take0 s.data.toList)) := by
  have h := rtake_l0 s hs (min s.size 6) 0 0 (by omega) (by decide)
  rw [List.drop_zero] at h
  exact h
theorem rtake_ofL (l : List UInt8) (hl : l.length ≤ 9223372036854775807) : Ev (fun k => clinkerref02_Take.f k (ofL l)) (takeE (take0 l)) := rtake_ev (ofL l) hl

theorem runpack_l0 (m : Nat) (hm : m ≤ top) : ∀ (d i : Nat) (out : List Nat) (l : List UInt8), i + d = m → out.length = i → l.length ≤ 9223372036854775807 →
    Ev (fun k => clinkerref02_Unpack.l0 k (m : Int) (ofL l) (nats out) (i : Int)) (unpackE (loopU d out l))
  | 0, i, out, l, hi, _, _ => by
    refine Ev.step (fun k => clinkerref02_Unpack.l0.eq_2 ..) (Ev.ite_neg (by omega) ?_)
    exact Ev.now _
  | d + 1, i, out, l, hi, ho, hl => by
    refine Ev.step (fun k => clinkerref02_Unpack.l0.eq_2 ..) (Ev.ite_pos (by omega) (Ev.bind (rtake_ofL l hl) ?_))
    simp only [loopU]
    cases ht : take0 l with
    | none => exact Ev.ite_neg (by simp [takeE]) (Ev.now _)
    | some p =>
      obtain ⟨k, r⟩ := p
      have h1 := take0_short ht
      have ih := runpack_l0 m hm d (i + 1) (out ++ [k]) r (by omega) (by simp [ho]) (by omega)
      unfold top at hm
      refine Ev.ite_pos rfl (Ev.ite_pos (by rw [nats_length]; omega) ?_)
      rw [wrap64_in (by omega) (by omega)]
      simp only [takeE]
      rw [nats_snoc]
      exact ih
theorem runpack_ofL (l : List UInt8) (hl : l.length ≤ 9223372036854775807) : Ev (fun k => clinkerref02_Unpack.f k (ofL l)) (unpackE (unpackL l)) := by
  unfold clinkerref02_Unpack.f unpackL
  refine Ev.bind (rtake_ofL l hl) ?_
  cases ht : take0 l with
  | none => exact Ev.ite_neg (by simp [takeE]) (Ev.step (fun k => clinkerref02_Unpack.j0.eq_2 ..) (Ev.ite_pos rfl (Ev.now _)))
  | some p =>
    obtain ⟨n, r⟩ := p
    have h1 := take0_short ht
    refine Ev.ite_pos rfl (Ev.step (fun k => clinkerref02_Unpack.j0.eq_2 ..) ?_)
    simp only [takeE, ofL_size]
    by_cases h : r.length < n
    · rw [if_pos h]
      exact Ev.ite_pos (decide_eq_true (by omega)) (Ev.now _)
    · rw [if_neg h]
      refine Ev.ite_neg (not_dec (by omega)) ?_
      exact runpack_l0 n (take0_back ht).2 n 0 [] r (by omega) rfl (by omega)
end Go.Proofs.Ytejhgjmapnmigaa.X

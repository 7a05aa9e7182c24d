/- Records by numbers, in plain words: they may be records; the statements TagMade and TagLong over numbers and lists alone. -/
import Derived.Test.YtejhgjmapnmigaaTagAll
import Derived.Test.YtejhgjmapnmigaaTagMade
import Derived.Test.YtejhgjmapnmigaaPAllx13
import Derived.Test.YtejhgjmapnmigaaPAllx17
namespace Go.Proofs.Ytejhgjmapnmigaa.X
open Go.RowKit Go.Proofs.Ytejhgjmapnmigaa.PAll Go.Proofs.YtejhgjmapnmigaaW.PrintWords Go.Proofs.YtejhgjmapnmigaaW.PrintLast Go.Proofs.YtejhgjmapnmigaaW.PrintMore

theorem wf_u16 {a : Int} (h : (Lit.int .u16 a).wf = true) : 0 ≤ a ∧ a ≤ 65535 := by
  have hmin : IntKind.u16.min = 0 := rfl
  have hmax : IntKind.u16.max = 65535 := rfl
  simp only [Lit.wf, Bool.and_eq_true, decide_eq_true_eq] at h
  omega
theorem made_f (l : List Int) (h : ∀ x ∈ l, (Lit.int .u16 x).wf = true) : clinkerlaw03_Made.f l = some (madeV l) := by
  unfold clinkerlaw03_Made.f
  rw [if_pos (fun x hx => wf_u16 (h x hx))]
theorem keysV_true {l : List Int} (h0 : l ≠ []) (h1 : l.length ≤ 8) (h2 : ∀ x ∈ l, 0 ≤ x ∧ x < 64) (h3 : l.Pairwise (· < ·)) : keysV l = true := by
  have hp : ∀ j, 1 ≤ j → j < l.length → l.getD (j - 1) 0 < l.getD j 0 := fun j hj1 hj2 => by
    rw [List.getD_eq_getElem?_getD, List.getD_eq_getElem?_getD, List.getElem?_eq_getElem (show j - 1 < l.length by omega), List.getElem?_eq_getElem hj2]
    exact (List.pairwise_iff_getElem.mp h3) (j - 1) j (by omega) hj2 (by omega)
  have hlen : 0 < l.length := List.length_pos_iff.mpr h0
  unfold keysV
  rw [decide_eq_true (show 0 < (l.length : Int) by omega), decide_eq_true (show (l.length : Int) ≤ 8 by omega),
    any_take_end oddK l (fun i hi => by
      have hx := h2 (l.getD i 0) (by rw [List.getD_eq_getElem?_getD, List.getElem?_eq_getElem hi]; exact List.getElem_mem hi)
      unfold oddK
      rw [decide_eq_false (by omega), decide_eq_false (by omega)]; rfl),
    srt_good l l.length (fun j a b => by have := hp j a b; omega), noRep_good l l.length (fun j a b => by have := hp j a b; omega)]
  rfl
/-- What the keys and the values of a record by numbers are. -/
theorem madeL_inv (l : List Int) (kind : Int) : ∀ (n : Nat) (key : Int) (j : Nat) (ks vs : List Int), 0 ≤ key → ks.Pairwise (· < ·) → (∀ x ∈ ks, 0 ≤ x ∧ x < 64 ∧ x < key) → (∀ x ∈ vs, -1 ≤ x ∧ x < 512) → (kind = 2 → vs.length = ks.length) → (kind ≠ 2 → vs = []) →
    (madeL l kind n key j ks vs).1.Pairwise (· < ·) ∧ (∀ x ∈ (madeL l kind n key j ks vs).1, 0 ≤ x ∧ x < 64) ∧ (∀ x ∈ (madeL l kind n key j ks vs).2, -1 ≤ x ∧ x < 512) ∧ (kind = 2 → (madeL l kind n key j ks vs).2.length = (madeL l kind n key j ks vs).1.length) ∧ (kind ≠ 2 → (madeL l kind n key j ks vs).2 = []) ∧
      ks.length ≤ (madeL l kind n key j ks vs).1.length ∧ (madeL l kind n key j ks vs).1.length ≤ ks.length + n
  | 0, key, j, ks, vs, h0, h1, h2, h3, h4, h5 => ⟨h1, fun x hx => ⟨(h2 x hx).1, (h2 x hx).2.1⟩, h3, h4, h5, Nat.le_refl _, Nat.le_refl _⟩
  | n + 1, key, j, ks, vs, h0, h1, h2, h3, h4, h5 => by
    rw [madeL]
    by_cases hk : key < 64
    · rw [if_pos hk]
      have hp := pk_in l j (n := 10) (by omega)
      have g1 : (ks ++ [key]).Pairwise (· < ·) := by
        rw [List.pairwise_append]
        exact ⟨h1, List.pairwise_singleton _ _, fun x hx y hy => by rw [List.mem_singleton] at hy; rw [hy]; exact (h2 x hx).2.2⟩
      have g2 : ∀ x ∈ ks ++ [key], 0 ≤ x ∧ x < 64 ∧ x < key + 1 + pk l j 10 := fun x hx => by
        rcases List.mem_append.mp hx with h | h
        · have := h2 x h; omega
        · rw [List.mem_singleton] at h; omega
      by_cases h : kind = 2
      · rw [if_pos h]
        have hq := pk_in l (j + 1) (n := 513) (by omega)
        obtain ⟨r1, r2, r3, r4, r5, r6, r7⟩ := madeL_inv l kind n (key + 1 + pk l j 10) (j + 2) (ks ++ [key]) (vs ++ [pk l (j + 1) 513 - 1]) (by omega) g1 g2 (fun x hx => by
          rcases List.mem_append.mp hx with h | h
          · exact h3 x h
          · rw [List.mem_singleton] at h; omega) (fun _ => by rw [List.length_append, List.length_append, h4 h]; rfl) (fun hn => absurd h hn)
        rw [List.length_append] at r6 r7
        exact ⟨r1, r2, r3, r4, r5, by omega, by simp at r7; omega⟩
      · rw [if_neg h]
        obtain ⟨r1, r2, r3, r4, r5, r6, r7⟩ := madeL_inv l kind n (key + 1 + pk l j 10) (j + 1) (ks ++ [key]) vs (by omega) g1 g2 h3 (fun e => absurd e h) h5
        rw [List.length_append] at r6 r7
        exact ⟨r1, r2, r3, r4, r5, by omega, by simp at r7; omega⟩
    · rw [if_neg hk]
      exact ⟨h1, fun x hx => ⟨(h2 x hx).1, (h2 x hx).2.1⟩, h3, h4, h5, Nat.le_refl _, Nat.le_add_right _ _⟩
theorem madeL_pos (l : List Int) (kind : Int) (n : Nat) (key : Int) (j : Nat) (hn : 1 ≤ n) (h0 : 0 ≤ key) (hk : key < 64) : 1 ≤ (madeL l kind n key j [] []).1.length := by
  obtain ⟨n, rfl⟩ : ∃ m, n = m + 1 := ⟨n - 1, by omega⟩
  have hp := pk_in l j (n := 10) (by omega)
  have hq := pk_in l (j + 1) (n := 513) (by omega)
  rw [madeL, if_pos hk]
  by_cases h : kind = 2
  · rw [if_pos h]
    exact (madeL_inv l kind n (key + 1 + pk l j 10) (j + 2) ([] ++ [key]) ([] ++ [pk l (j + 1) 513 - 1]) (by omega) (List.pairwise_singleton _ _) (fun x hx => by simp at hx; omega) (fun x hx => by simp at hx; omega) (fun _ => rfl) (fun hn => absurd h hn)).2.2.2.2.2.1
  · rw [if_neg h]
    exact (madeL_inv l kind n (key + 1 + pk l j 10) (j + 1) ([] ++ [key]) [] (by omega) (List.pairwise_singleton _ _) (fun x hx => by simp at hx; omega) (fun x hx => by simp at hx) (fun e => absurd e h) (fun _ => rfl)).2.2.2.2.2.1
theorem made_facts (l : List Int) : rightV (madeV l).1 (madeV l).2.1 (madeV l).2.2.1 (madeV l).2.2.2 = true ∧ 1 ≤ (madeV l).2.2.1.length ∧ (madeV l).2.2.1.length ≤ 8 ∧ (madeV l).2.2.2.length ≤ 8 ∧ (madeV l).1 < 128 ∧ (madeV l).2.1 < 268435456 := by
  have i0 := pk_in l 0 (n := 2) (by omega)
  have i1 := pk_in l 1 (n := 60000) (by omega)
  have i2 := pk_in l 2 (n := 1000) (by omega)
  have i3 := pk_in l 3 (n := 20) (by omega)
  have i4 := pk_in l 4 (n := 8) (by omega)
  obtain ⟨r1, r2, r3, r4, r5, r6, r7⟩ := madeL_inv l (1 + pk l 0 2) (pk l 4 8 + 1).toNat (pk l 3 20) 5 [] [] (by omega) List.Pairwise.nil (fun x hx => by simp at hx) (fun x hx => by simp at hx) (fun _ => rfl) (fun _ => rfl)
  have r8 := madeL_pos l (1 + pk l 0 2) (pk l 4 8 + 1).toNat (pk l 3 20) 5 (by omega) (by omega) (by omega)
  have hq : 0 ≤ pk l 1 60000 * (1 + pk l 2 1000) ∧ pk l 1 60000 * (1 + pk l 2 1000) ≤ 60000 * 1000 := ⟨Int.mul_nonneg (by omega) (by omega), Int.mul_le_mul (by omega) (by omega) (by omega) (by omega)⟩
  have e1 : (madeV l).1 = 1 + pk l 0 2 := rfl
  have e2 : (madeV l).2.1 = pk l 1 60000 * (1 + pk l 2 1000) := rfl
  have e3 : (madeV l).2.2.1 = (madeL l (1 + pk l 0 2) (pk l 4 8 + 1).toNat (pk l 3 20) 5 [] []).1 := rfl
  have e4 : (madeV l).2.2.2 = (madeL l (1 + pk l 0 2) (pk l 4 8 + 1).toNat (pk l 3 20) 5 [] []).2 := rfl
  rw [e1, e2, e3, e4]
  generalize (madeL l (1 + pk l 0 2) (pk l 4 8 + 1).toNat (pk l 3 20) 5 [] []) = r at *
  have h8 : r.1.length ≤ 8 := by simp at r7; omega
  have h9 : r.2.length ≤ 8 := by
    by_cases h : 1 + pk l 0 2 = 2
    · rw [r4 h]; exact h8
    · rw [r5 h]; simp
  refine ⟨?_, r8, h8, h9, by omega, by omega⟩
  unfold rightV
  rw [if_neg (by omega), if_neg (by omega), keysV_true (List.length_pos_iff.mp r8) h8 r2 r1, if_neg (by simp),
    any_take_end oddV r.2 (fun i hi => by
      have hx := r3 (r.2.getD i 0) (by rw [List.getD_eq_getElem?_getD, List.getElem?_eq_getElem hi]; exact List.getElem_mem hi)
      unfold oddV
      rw [decide_eq_false (by omega), decide_eq_false (by omega)]; rfl), if_neg (by simp)]
  by_cases h : 1 + pk l 0 2 = 1
  · rw [if_pos h, r5 (by omega)]
    rfl
  · rw [if_neg h, if_pos (show 1 + pk l 0 2 = 2 by omega), r4 (by omega)]
    exact beq_iff_eq.mpr rfl
theorem awake_f : clinkerlaw03_awake.f = some true := rfl
end Go.Proofs.Ytejhgjmapnmigaa.X
